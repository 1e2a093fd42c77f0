/- A part of the proof of FnExactPileOfParking. -/
import Derived.Test.YtjecgolakaiddaaBFnExactPileOfParking2
import Derived.Test.YtjecgolakaiddaaBFnExactPileOfParking0
import Derived.Test.YtjecgolakaiddaaBFnExactPileOfParking1
section
namespace Go.Proofs.Ytjecgolakaiddaa.P
open Go.RowKit Go.Proofs.YtjecgolakaiddaaW.PrintWords Go.Proofs.YtjecgolakaiddaaW.PrintLast Go.Proofs.YtjecgolakaiddaaW.PrintMore
attribute [local go_sem] max2_int min2_int max_two min_two max_three min_three max_four min_four
set_option linter.unusedVariables false
set_option linter.unusedSimpArgs false
def impl_plus.l0 : Nat → List Int → List Int → Int → Int → Option (List Int)
  | 0, _, _, _, _ => none
  | k + 1, x1, x5, x10, x11 => if x11 < x10 then (if 0 ≤ x11 then (if x11 < (x5.length : Int) then (if x11 < (x1.length : Int) then (impl_plus.l0 k x1 (x5.set (x11 : Int).toNat (wrap64 ((rd x5 x11) + (rd x1 x11)))) x10 (wrap64 (x11 + 1))) else (none)) else (none)) else (none)) else (some x5)
def impl_plus.f (k : Nat) (l0 : List Int) (l1 : List Int) : Option (List Int) := (impl_copyInts.f l0).bind fun t101 => (impl_plus.l0 k l1 t101 (t101.length : Int) 0)
theorem impl_plus.mono_l : ∀ k, (∀ y0 y1 y2 y3, LeO (impl_plus.l0 k y0 y1 y2 y3) (impl_plus.l0 (k + 1) y0 y1 y2 y3))
  | 0 => fun _ _ _ _ r h => by simp [impl_plus.l0] at h
  | k + 1 => by
    have ih0 := impl_plus.mono_l k
    · intro y0 y1 y2 y3
      unfold impl_plus.l0
      exact zm0
theorem impl_plus.mono : ∀ a0 a1 k, LeO (impl_plus.f k a0 a1) (impl_plus.f (k + 1) a0 a1) := by
  intro a0 a1 k; have ih0 := impl_plus.mono_l k; unfold impl_plus.f; exact zm0
def impl_plus.T5 : Bool × List (List Nat × List Nat) := (true, [([], []), ([], []), ([0, 1], [0, 1]), ([2], [2]), ([], []), ([], []), ([4, 5], [4, 5]), ([6], [6]), ([3, 7], [3, 7]), ([0, 1, 0, 1, 2, 3, 4, 5, 6, 7, 8], [0, 1]), ([9, 8, 0, 1, 2, 3, 4, 5, 6, 7, 8], [8, 9])])
def impl_plus.B5 : List Nat := [0, 0, 3, 7, 0, 0, 48, 112, 255, 511, 1023]
theorem impl_plus.tab5 : rtab .any (opsOf Try.f149 5) = impl_plus.T5 := by kernel_rfl
theorem impl_plus.bits5 : waitsOk impl_plus.T5.2 impl_plus.B5 = true := by kernel_rfl
set_option maxHeartbeats 8000000 in
set_option maxRecDepth 100000 in
theorem impl_plus.calls (k : Nat) (A0 : Option Addr) (c0 : Nat) (l0 : List Int) (A1 : Option Addr) (c1 : Nat) (l1 : List Int) (r : List Int) (w : World) (hr0 : Kd.C (Kd.int .i64) w A0 l0.length l0) (hc0 : l0.length ≤ c0) (hr1 : Kd.C (Kd.int .i64) w A1 l1.length l1) (hc1 : l1.length ≤ c1) (h : impl_plus.f k l0 l1 = some r) :
    Calls Try.prog 149 #[.slice A0 l0.length c0, .slice A1 l1.length c1] w fun e w' => ∃ v0_ : Value, e = .returned (v0_) ∧ Kd.R (Kd.int .i64) 3 w' w.heap.size (fun _ => True) v0_ r ∧ Below w.heap.size w w' := by
  have HR0 := Aside0.mk hr0; have HC0 := Aside0.mk hc0; clear hr0 hc0; have HR1 := Aside0.mk hr1; have HC1 := Aside0.mk hc1; clear hr1 hc1; have HB := Aside0.mk (Below.refl w.heap.size w); have H : ((impl_copyInts.f l0).bind fun t101 => (impl_plus.l0 k l1 t101 (t101.length : Int) 0)) = some r := h; clear h; replace H := Option.bind_eq_some_iff.mp H; obtain ⟨t101, A30, H⟩ := H; replace H : (impl_plus.l0 k l1 t101 (t101.length : Int) 0) = some r := H; have A3 := Aside0.mk A30; clear A30; have H' := Aside0.mk H; clear H; go_enter Try.func149, Try.ntmps149; (go_wp2_with (first | ((with_reducible refine gate_callee (f := 124) rfl ?_); refine goesL_ (some 8) rfl rfl Try.func124 (by kernel_rfl) rfl #[.slice A0 l0.length c0] rfl zz3 ?_; (with_reducible refine (impl_copyInts.calls _ _ l0 t101 _ ?side1 ?side2 A3.out).mono ?_); (case side1 => exact zz50); (case side2 => exact HC0.out); rintro e w4 ⟨v102, rfl, ho0, hb⟩; refine ⟨_, rfl, ?_⟩; have n0_ := Aside0.mk (Kd.R_lower ho0 (below_size zz1)); have n1_ := Aside0.mk (below_step zz1 hb); clear HB; have HO103 := n0_; have HB := n1_; clear n0_ n1_; (try clear hb); (try clear hb2); (try clear hk); (try clear hi); (try clear ho0); obtain ⟨Ao5, co5, eo5⟩ := Kd.R_slice HO103.out; subst eo5))); (go_loopg [11] k (fun kq v11 w' => ∃ (x5_1 : List Int) (x11_1 : Int), v11 = .int .i64 x11_1 ∧ Aside0 (impl_plus.l0 kq l1 x5_1 (t101.length : Int) x11_1 = some r) ∧ Aside0 (kq ≤ k) ∧ Aside0 (Kd.R (Kd.int .i64) 3 w' w.heap.size (fun _ => True) (.slice Ao5 t101.length co5) x5_1) ∧ Aside0 (Below w.heap.size w w'))); case atStart => exact ⟨(t101), (0), zz7, H', ⟨Nat.le_refl _⟩, ⟨zz42⟩, ⟨zz1⟩⟩
  case round =>
    clear H'; (try clear c1); (try clear p2); obtain ⟨x5_1, x11_1, rfl, HA, HK1, HO_5, HB⟩ := hrel; have hl5_1 := (Kd.R_reads' HO_5.out).1; rw [hl5_1] at HO_5; (try simp only [hl5_1])
    cases gk with
    | zero => exact absurd HA.out (by simp [impl_plus.l0])
    | succ k1 =>
      have H := HA.out; clear HA; simp only [impl_plus.l0] at H; by_cases c6 : x11_1 < (t101.length : Int); rotate_left
      · rw [if_neg c6] at H; have c6b0 : decide (x11_1 < (t101.length : Int)) = false := decide_eq_false c6; (try (have c6b85_1 := c6b0; first | rw [hl5_1] at c6b85_1 | rw [← hl5_1] at c6b85_1)); clear c6; obtain rfl := Option.some.inj H; go_wp2; go_ret; exact ⟨_, zz6, by (with_reducible repeat (first | apply Kd.R_alloc | apply Kd.R_drewN | apply Kd.R_drew)); exact HO_5.out, zz1⟩
      rw [if_pos c6] at H; have c6b0 : decide (x11_1 < (t101.length : Int)) = true := decide_eq_true c6; (try (have c6b85_1 := c6b0; first | rw [hl5_1] at c6b85_1 | rw [← hl5_1] at c6b85_1)); clear c6; by_cases c7 : 0 ≤ x11_1; rotate_left
      · rw [if_neg c7] at H; exact absurd H (by simp)
      rw [if_pos c7] at H; have c7b0 : decide (0 ≤ x11_1) = true := decide_eq_true c7; clear c7; by_cases c8 : x11_1 < (x5_1.length : Int); rotate_left
      · rw [if_neg c8] at H; exact absurd H (by simp)
      rw [if_pos c8] at H; have c8b0 : decide (x11_1 < (x5_1.length : Int)) = true := decide_eq_true c8; (try (have c8b85_1 := c8b0; first | rw [hl5_1] at c8b85_1 | rw [← hl5_1] at c8b85_1)); clear c8; by_cases c9 : x11_1 < (l1.length : Int); rotate_left
      · rw [if_neg c9] at H; exact absurd H (by simp)
      rw [if_pos c9] at H; have c9b0 : decide (x11_1 < (l1.length : Int)) = true := decide_eq_true c9; (try (have c9b85_1 := c9b0; first | rw [hl5_1] at c9b85_1 | rw [← hl5_1] at c9b85_1)); clear c9; obtain ⟨y106, hy106⟩ : ∃ y_ : List Int, y_ = (x5_1.set (x11_1 : Int).toNat (wrap64 ((rd x5_1 x11_1) + (rd l1 x11_1)))) := ⟨_, rfl⟩; (replace H : (impl_plus.l0 k1 l1 y106 (t101.length : Int) (wrap64 (x11_1 + 1))) = some r := by first | (rw [hy106]; with_reducible exact H) | (have H2_ := (Option.bind_some _ _).symm.trans H; rw [hy106]; with_reducible exact H2_) | (have H2_ := (Option.bind_some _ _).symm.trans H; with_reducible exact H2_) | with_reducible exact H | (rw [hy106]; exact H) | exact H); have Ny106 := Aside0.mk hy106; clear hy106; have H' := Aside0.mk H; clear H; (try go_wp2); have n0_ := Aside0.mk (Kd.R_drew HO_5.out); have n1_ := Aside0.mk (below_drew1 HB.out); clear HO_5; clear HB; have HO_5 := n0_; have HB := n1_; clear n0_ n1_; have p104 : 0 ≤ (x11_1 : Int) := of_decide_eq_true zz4; have q104 : x11_1 < (x5_1.length : Int) := of_decide_eq_true zz4; obtain ⟨ad104, e104, hx104_0⟩ := Kd.at_int (Kd.R_reads' HO_5.out).2.2 x11_1 p104 q104; cases e104; replace p104 := eq_true p104; replace q104 := eq_true q104; have p105 : 0 ≤ (x11_1 : Int) := of_decide_eq_true zz4; have q105 : x11_1 < (l1.length : Int) := of_decide_eq_true zz4; obtain ⟨ad105, e105, hx105_0⟩ := Kd.at_int HR1.out x11_1 p105 q105; have hw105_0 := hx105_0; cases e105; replace hx105_0 := (HB.out.cell (World.block_lt_of_cell? w _ hx105_0)).trans hx105_0; replace p105 := eq_true p105; replace q105 := eq_true q105; have p10 : 0 ≤ (x11_1 : Int) := of_decide_eq_true zz4; have q10 : (x11_1 : Int) < ((x5_1.length : Int) : Int) := of_decide_eq_true zz4; obtain ⟨go10, co10, eo10, gb10, gl10, cl10, HG10⟩ := Kd.R_form HO_5.out (by omega); (first | cases eo10 | (injection eo10 with ea_ en_ ec_; (first | subst ea_ | (injection ea_ with ea_; subst ea_)); subst ec_; clear en_)); have GB10 := Aside0.mk gb10; have GG10 := Aside0.mk HG10; clear gb10 gl10 HG10; (first | simp only [add_plain] at hx104_0 | skip); obtain ⟨hx10_0, hf10_0⟩ := Kd.R_celln 0 HO_5.out (x11_1 : Int) p10 q10; replace p10 := eq_true p10; replace q10 := eq_true q10; have HP12 := Kd.R_putn HO_5.out (x11_1 : Int) (wrap64 ((rd x5_1 x11_1) + (rd l1 x11_1))); rw [← Ny106.out] at HP12; have HQ12 := Aside0.mk HP12; clear HP12; refine start_ (n := 11) (S := fun w' => w'.cell? ⟨go10, (x11_1).toNat, none⟩ = some (.int .i64 (rd x5_1 x11_1)) ∧ w'.cell? (ad105.add (x11_1).toNat) = some (.int .i64 (rd l1 x11_1))) (ds := [10]) #[zf, zf, zf, zf, zf, zf, zf, zf, zf, zf, zf] (by kernel_rfl) rfl rfl ⟨hx104_0, ((HB.out.cell (World.block_lt_of_cell? w _ hw105_0)).trans hw105_0)⟩ (fun hHeld => ?_); refine with_tabW impl_plus.tab5 impl_plus.bits5 (fun HT_ HW_ => ?_); generalize wr.drew = w11 at HO_5 HB GG10 HQ12 hf10_0 hx104_0 hx105_0 hx10_0 hHeld ⊢; refine pure_ (i := 0) (N := some 14) (v := ?_) (a' := ?_) #[zt, zf, zf, zf, zf, zf, zf, zf, zf, zf, zf] rfl rfl (any_of HT_.out (by kernel_rfl)) (fun _ _ _ h => h) (Or.inl ⟨by rfl, ?_⟩) ?_ ?_; rotate_left
      · intro w'; exact zzT
      rotate_left
      · exact zzS
      refine pure_ (i := 1) (N := some 15) (v := ?_) (a' := ?_) #[zt, zt, zf, zf, zf, zf, zf, zf, zf, zf, zf] rfl rfl (any_of HT_.out (by kernel_rfl)) (fun _ _ _ h => h) (Or.inl ⟨by rfl, ?_⟩) ?_ ?_; rotate_left
      · intro w'; exact zzT
      rotate_left
      · exact zzS
      refine pure_ (i := 2) (N := some 16) (v := ?_) (a' := ?_) #[zt, zt, zt, zf, zf, zf, zf, zf, zf, zf, zf] rfl rfl (any_of HT_.out (by kernel_rfl)) (fun _ _ _ h => h) (Or.inl ⟨by rfl, ?_⟩) ?_ ?_; rotate_left
      · intro w'; exact zzT
      rotate_left
      · exact zzS
      refine pure_ (i := 4) (N := some 18) (v := ?_) (a' := ?_) #[zt, zt, zt, zf, zt, zf, zf, zf, zf, zf, zf] rfl rfl (any_of HT_.out (by kernel_rfl)) (fun _ _ _ h => h) (Or.inl ⟨by rfl, ?_⟩) ?_ ?_; rotate_left
      · intro w'; exact zzT
      rotate_left
      · exact zzS
      refine pure_ (i := 5) (N := some 19) (v := ?_) (a' := ?_) #[zt, zt, zt, zf, zt, zt, zf, zf, zf, zf, zf] rfl rfl (any_of HT_.out (by kernel_rfl)) (fun _ _ _ h => h) (Or.inl ⟨by rfl, ?_⟩) ?_ ?_; rotate_left
      · intro w'; exact zzT
      rotate_left
      · exact zzS
      refine pure_ (i := 6) (N := some 20) (v := ?_) (a' := ?_) #[zt, zt, zt, zf, zt, zt, zt, zf, zf, zf, zf] rfl rfl (any_of HT_.out (by kernel_rfl)) (fun _ _ _ h => h) (Or.inl ⟨by rfl, ?_⟩) ?_ ?_; rotate_left
      · intro w'; exact zzT
      rotate_left
      · exact zzS
      refine take_ (i := 3) (N := some 17) (v := ?_) (a' := ?_) #[zt, zt, zt, zt, zt, zt, zt, zf, zf, zf, zf] rfl rfl (take_ofW HT_.out HW_.out (by kernel_rfl)) (fun _ _ _ h => h) (Or.inl ⟨by rfl, ?_⟩) hHeld ?_ ?_; rotate_left
      · rintro w' ⟨s0, s1⟩; exact zzT
      rotate_left
      · exact zzS
      refine take_ (i := 7) (N := some 21) (v := ?_) (a' := ?_) #[zt, zt, zt, zt, zt, zt, zt, zt, zf, zf, zf] rfl rfl (take_ofW HT_.out HW_.out (by kernel_rfl)) (fun _ _ _ h => h) (Or.inl ⟨by rfl, ?_⟩) hHeld ?_ ?_; rotate_left
      · rintro w' ⟨s0, s1⟩; exact zzT
      rotate_left
      · exact zzS
      refine pure_ (i := 8) (N := some 22) (v := ?_) (a' := ?_) #[zt, zt, zt, zt, zt, zt, zt, zt, zt, zf, zf] rfl rfl (any_of HT_.out (by kernel_rfl)) (fun _ _ _ h => h) (Or.inl ⟨by rfl, ?_⟩) ?_ ?_; rotate_left
      · intro w'; exact zzT
      rotate_left
      · exact zzS
      refine pure_ (i := 9) (N := some 23) (v := ?_) (a' := ?_) #[zt, zt, zt, zt, zt, zt, zt, zt, zt, zt, zf] rfl rfl (any_of HT_.out (by kernel_rfl)) (fun _ _ _ h => h) (Or.inl ⟨by rfl, ?_⟩) ?_ ?_; rotate_left
      · intro w'; exact zzT
      rotate_left
      · exact zzS
      refine last_ (i := 10) (N := none) #[zt, zt, zt, zt, zt, zt, zt, zt, zt, zt, zt] rfl rfl (one_of HT_.out (by kernel_rfl)) (by decide) (fun K hK => ?_); refine skip_ (w1 := ?_) (by rfl) rfl ?_ ?_; rotate_left
      · go_simp; rfl
      refine hK.out _ _ ?_; clear hK K; refine done_ (done_of HT_.out (by kernel_rfl)) ?_; (try go_wp2); (try simp only [← hl5_1]); go_roundg k1; (case measure => have := HK1.out; omega); case rel => exact ⟨(y106), (wrap64 (x11_1 + 1)), zz7, H', ⟨by have := HK1.out; omega⟩, ⟨by (try simp only [hl5_1]); (with_reducible repeat (first | apply Kd.R_alloc | apply Kd.R_drewN | apply Kd.R_drew)); exact HQ12.out⟩, ⟨by repeat (first | (with_reducible first | exact HB.out | apply below_alloc | apply pw_below_drewN | apply below_drew1 | refine below_set ?_ GB10.out) | exact HB.out)⟩⟩
def impl_NegateDivisor.l0 : Nat → List Int → Int → Int → Option (List Int)
  | 0, _, _, _ => none
  | k + 1, x3, x8, x9 => if x9 < x8 then (if 0 ≤ x9 then (if x9 < (x3.length : Int) then (impl_NegateDivisor.l0 k (x3.set (x9 : Int).toNat (wrap64 (-(rd x3 x9)))) x8 (wrap64 (x9 + 1))) else (none)) else (none)) else (some x3)
def impl_NegateDivisor.f (k : Nat) (l0 : List Int) : Option (List Int) := (impl_copyInts.f l0).bind fun t101 => (impl_NegateDivisor.l0 k t101 (t101.length : Int) 0)
theorem impl_NegateDivisor.mono_l : ∀ k, (∀ y0 y1 y2, LeO (impl_NegateDivisor.l0 k y0 y1 y2) (impl_NegateDivisor.l0 (k + 1) y0 y1 y2))
  | 0 => fun _ _ _ r h => by simp [impl_NegateDivisor.l0] at h
  | k + 1 => by
    have ih0 := impl_NegateDivisor.mono_l k
    · intro y0 y1 y2
      unfold impl_NegateDivisor.l0
      exact zm0
theorem impl_NegateDivisor.mono : ∀ a0 k, LeO (impl_NegateDivisor.f k a0) (impl_NegateDivisor.f (k + 1) a0) := by
  intro a0 k; have ih0 := impl_NegateDivisor.mono_l k; unfold impl_NegateDivisor.f; exact zm0
set_option maxHeartbeats 8000000 in
set_option maxRecDepth 100000 in
theorem impl_NegateDivisor.calls (k : Nat) (A0 : Option Addr) (c0 : Nat) (l0 : List Int) (r : List Int) (w : World) (hr0 : Kd.C (Kd.int .i64) w A0 l0.length l0) (hc0 : l0.length ≤ c0) (h : impl_NegateDivisor.f k l0 = some r) :
    Calls Try.prog 157 #[.slice A0 l0.length c0] w fun e w' => ∃ v0_ : Value, e = .returned (v0_) ∧ Kd.R (Kd.int .i64) 3 w' w.heap.size (fun _ => True) v0_ r ∧ Below w.heap.size w w' := by
  have HR0 := Aside0.mk hr0; have HC0 := Aside0.mk hc0; clear hr0 hc0; have HB := Aside0.mk (Below.refl w.heap.size w); have H : ((impl_copyInts.f l0).bind fun t101 => (impl_NegateDivisor.l0 k t101 (t101.length : Int) 0)) = some r := h; clear h; replace H := Option.bind_eq_some_iff.mp H; obtain ⟨t101, A20, H⟩ := H; replace H : (impl_NegateDivisor.l0 k t101 (t101.length : Int) 0) = some r := H; have A2 := Aside0.mk A20; clear A20; have H' := Aside0.mk H; clear H; go_enter Try.func157, Try.ntmps157; (go_wp2_with (first | ((with_reducible refine gate_callee (f := 124) rfl ?_); refine goesL_ (some 6) rfl rfl Try.func124 (by kernel_rfl) rfl #[.slice A0 l0.length c0] rfl zz3 ?_; (with_reducible refine (impl_copyInts.calls _ _ l0 t101 _ ?side1 ?side2 A2.out).mono ?_); (case side1 => exact zz50); (case side2 => exact HC0.out); rintro e w3 ⟨v102, rfl, ho0, hb⟩; refine ⟨_, rfl, ?_⟩; have n0_ := Aside0.mk (Kd.R_lower ho0 (below_size zz1)); have n1_ := Aside0.mk (below_step zz1 hb); clear HB; have HO103 := n0_; have HB := n1_; clear n0_ n1_; (try clear hb); (try clear hb2); (try clear hk); (try clear hi); (try clear ho0); obtain ⟨Ao4, co4, eo4⟩ := Kd.R_slice HO103.out; subst eo4))); (go_loopg [9] k (fun kq v9 w' => ∃ (x3_1 : List Int) (x9_1 : Int), v9 = .int .i64 x9_1 ∧ Aside0 (impl_NegateDivisor.l0 kq x3_1 (t101.length : Int) x9_1 = some r) ∧ Aside0 (kq ≤ k) ∧ Aside0 (Kd.R (Kd.int .i64) 3 w' w.heap.size (fun _ => True) (.slice Ao4 t101.length co4) x3_1) ∧ Aside0 (Below w.heap.size w w'))); case atStart => exact ⟨(t101), (0), zz7, H', ⟨Nat.le_refl _⟩, ⟨zz42⟩, ⟨zz1⟩⟩
  case round =>
    clear H'; (try clear c1); (try clear p2); obtain ⟨x3_1, x9_1, rfl, HA, HK1, HO_3, HB⟩ := hrel; have hl3_1 := (Kd.R_reads' HO_3.out).1; rw [hl3_1] at HO_3; (try simp only [hl3_1])
    cases gk with
    | zero => exact absurd HA.out (by simp [impl_NegateDivisor.l0])
    | succ k1 =>
      have H := HA.out; clear HA; simp only [impl_NegateDivisor.l0] at H; by_cases c5 : x9_1 < (t101.length : Int); rotate_left
      · rw [if_neg c5] at H; have c5b0 : decide (x9_1 < (t101.length : Int)) = false := decide_eq_false c5; (try (have c5b83_1 := c5b0; first | rw [hl3_1] at c5b83_1 | rw [← hl3_1] at c5b83_1)); clear c5; obtain rfl := Option.some.inj H; go_wp2; go_ret; exact ⟨_, zz6, zz20, zz1⟩
      rw [if_pos c5] at H; have c5b0 : decide (x9_1 < (t101.length : Int)) = true := decide_eq_true c5; (try (have c5b83_1 := c5b0; first | rw [hl3_1] at c5b83_1 | rw [← hl3_1] at c5b83_1)); clear c5; by_cases c6 : 0 ≤ x9_1; rotate_left
      · rw [if_neg c6] at H; exact absurd H (by simp)
      rw [if_pos c6] at H; have c6b0 : decide (0 ≤ x9_1) = true := decide_eq_true c6; clear c6; by_cases c7 : x9_1 < (x3_1.length : Int); rotate_left
      · rw [if_neg c7] at H; exact absurd H (by simp)
      rw [if_pos c7] at H; have c7b0 : decide (x9_1 < (x3_1.length : Int)) = true := decide_eq_true c7; (try (have c7b83_1 := c7b0; first | rw [hl3_1] at c7b83_1 | rw [← hl3_1] at c7b83_1)); clear c7; obtain ⟨y105, hy105⟩ : ∃ y_ : List Int, y_ = (x3_1.set (x9_1 : Int).toNat (wrap64 (-(rd x3_1 x9_1)))) := ⟨_, rfl⟩; (replace H : (impl_NegateDivisor.l0 k1 y105 (t101.length : Int) (wrap64 (x9_1 + 1))) = some r := by first | (rw [hy105]; with_reducible exact H) | (have H2_ := (Option.bind_some _ _).symm.trans H; rw [hy105]; with_reducible exact H2_) | (have H2_ := (Option.bind_some _ _).symm.trans H; with_reducible exact H2_) | with_reducible exact H | (rw [hy105]; exact H) | exact H); have Ny105 := Aside0.mk hy105; clear hy105; have H' := Aside0.mk H; clear H; have p104 : 0 ≤ (x9_1 : Int) := of_decide_eq_true zz4; have q104 : x9_1 < (x3_1.length : Int) := of_decide_eq_true zz4; obtain ⟨ad104, e104, hx104_0⟩ := Kd.at_int (Kd.R_reads' HO_3.out).2.2 x9_1 p104 q104; cases e104; replace p104 := eq_true p104; replace q104 := eq_true q104; have p8 : 0 ≤ (x9_1 : Int) := of_decide_eq_true zz4; have q8 : (x9_1 : Int) < ((x3_1.length : Int) : Int) := of_decide_eq_true zz4; obtain ⟨go8, co8, eo8, gb8, gl8, cl8, HG8⟩ := Kd.R_form HO_3.out (by omega); (first | cases eo8 | (injection eo8 with ea_ en_ ec_; (first | subst ea_ | (injection ea_ with ea_; subst ea_)); subst ec_; clear en_)); have GB8 := Aside0.mk gb8; have GG8 := Aside0.mk HG8; clear gb8 gl8 HG8; (first | simp only [add_plain] at hx104_0 | skip); obtain ⟨hx8_0, hf8_0⟩ := Kd.R_celln 0 HO_3.out (x9_1 : Int) p8 q8; replace p8 := eq_true p8; replace q8 := eq_true q8; have HP9 := Kd.R_putg HO_3.out (x9_1 : Int) (wrap64 (-(rd x3_1 x9_1))); (go_wp2_with (first | ((with_reducible refine gate_store (t := 3) (p := 19) rfl ?_); refine store_event (t := 3) (p := 19) (v := ?vo_w10) (w1 := (wr.setCell ⟨go8, (x9_1 : Int).toNat, none⟩ (.int .i64 (wrap64 (-(rd x3_1 x9_1)))))) ?hg ?ho ?hn ?hr ?_; (case ho => rfl); (case hg => rfl); (case hn => rfl); (case hr => exact zz12); intro w10 hw; have hg : wr.grownBy w10 (some go8) := (by rw [hw]; exact HP9.2); have hp_ : Kd.R (Kd.int .i64) 3 w10 w.heap.size (fun _ => True) (.slice (some ⟨go8, 0, none⟩) x3_1.length co4) y105 := (by rw [hw, Ny105.out]; exact HP9.1); clear HP9; have n0_ := Aside0.mk (hp_); have n1_ := Aside0.mk ((by rw [hw]; exact below_set (HB.out) GB8.out : Below w.heap.size w w10)); clear HO_3; clear HB; have HO_3 := n0_; have HB := n1_; clear n0_ n1_; clear hg hw hp_))); (try simp only [← hl3_1]); go_roundg k1; (case measure => have := HK1.out; omega); case rel => exact ⟨(y105), (wrap64 (x9_1 + 1)), zz7, H', ⟨by have := HK1.out; omega⟩, ⟨by (try simp only [hl3_1]); (with_reducible repeat (first | apply Kd.R_alloc | apply Kd.R_drewN | apply Kd.R_drew)); exact HO_3.out⟩, ⟨zz1⟩⟩
def impl_PileOfParking.f (k : Nat) (a0_0 : Int) (l0_1 : List (S70)) (l1 : List Int) (a2 : Int) : Option (List Int × Bool) := (impl_IsParking.f k a0_0 l0_1 l1 a2).bind fun t102 => (if t102 = true then ((impl_FullPile.f k a0_0 l0_1 a2).bind fun t103 => ((impl_NegateDivisor.f k l1).bind fun t106 => ((impl_plus.f k t103 t106).bind fun t109 => (if 0 ≤ a2 then (if a2 < (t109.length : Int) then (some ((t109.set (a2 : Int).toNat 0), true)) else (none)) else (none))))) else (some (([] : List Int), false)))
theorem impl_PileOfParking.mono : ∀ a0 a1 a2 a3 k, LeO (impl_PileOfParking.f k a0 a1 a2 a3) (impl_PileOfParking.f (k + 1) a0 a1 a2 a3) := by
  intro a0 a1 a2 a3 k; unfold impl_PileOfParking.f; repeat' first | (with_reducible apply impl_FullPile.mono) | (with_reducible apply impl_IsParking.mono) | (with_reducible apply impl_NegateDivisor.mono) | (with_reducible apply impl_plus.mono) | (with_reducible exact LeO.refl _) | (with_reducible exact LeO.none _) | (with_reducible refine LeO.ite ?_ ?_) | (with_reducible refine LeO.bind ?_ (fun _ => ?_)) | apply impl_FullPile.mono | apply impl_IsParking.mono | apply impl_NegateDivisor.mono | apply impl_plus.mono | exact LeO.none _ | refine LeO.ite ?_ ?_ | refine LeO.bind ?_ (fun _ => ?_)
set_option maxHeartbeats 8000000 in
set_option maxRecDepth 100000 in
theorem impl_PileOfParking.calls (k : Nat) (a0_0 : Int) (A0_1 : Option Addr) (c0_1 : Nat) (l0_1 : List (S70)) (A1 : Option Addr) (c1 : Nat) (l1 : List Int) (a2 : Int) (r1 : List Int) (r2 : Bool) (w : World) (hr0_1 : Kd.C k70 w A0_1 l0_1.length l0_1) (hc0_1 : l0_1.length ≤ c0_1) (hr1 : Kd.C (Kd.int .i64) w A1 l1.length l1) (hc1 : l1.length ≤ c1) (h : impl_PileOfParking.f k a0_0 l0_1 l1 a2 = some (r1, r2)) :
    Calls Try.prog 85 #[.agg #[.int .i64 a0_0, .slice A0_1 l0_1.length c0_1], .slice A1 l1.length c1, .int .i64 a2] w fun e w' => ∃ v0_ : Value, e = .returned (.tuple #[v0_, .bool r2]) ∧ Kd.R (Kd.int .i64) 3 w' w.heap.size (fun _ => True) v0_ r1 ∧ Below w.heap.size w w' := by
  have hu38 := Try.underlying38; have HR0_1 := Aside0.mk hr0_1; have HC0_1 := Aside0.mk hc0_1; clear hr0_1 hc0_1; have HR1 := Aside0.mk hr1; have HC1 := Aside0.mk hc1; clear hr1 hc1; have HB := Aside0.mk (Below.refl w.heap.size w); have H : ((impl_IsParking.f k a0_0 l0_1 l1 a2).bind fun t102 => (if t102 = true then ((impl_FullPile.f k a0_0 l0_1 a2).bind fun t103 => ((impl_NegateDivisor.f k l1).bind fun t106 => ((impl_plus.f k t103 t106).bind fun t109 => (if 0 ≤ a2 then (if a2 < (t109.length : Int) then (some ((t109.set (a2 : Int).toNat 0), true)) else (none)) else (none))))) else (some (([] : List Int), false)))) = some (r1, r2) := h; clear h; replace H := Option.bind_eq_some_iff.mp H; obtain ⟨t102, A40, H⟩ := H; replace H : (if t102 = true then ((impl_FullPile.f k a0_0 l0_1 a2).bind fun t103 => ((impl_NegateDivisor.f k l1).bind fun t106 => ((impl_plus.f k t103 t106).bind fun t109 => (if 0 ≤ a2 then (if a2 < (t109.length : Int) then (some ((t109.set (a2 : Int).toNat 0), true)) else (none)) else (none))))) else (some (([] : List Int), false))) = some (r1, r2) := H; have A4 := Aside0.mk A40; clear A40; by_cases c5 : t102 = true; rotate_left
  · replace c5 := Bool.eq_false_iff.mpr c5; subst c5; (have H1 : (some (([] : List Int), false)) = some (r1, r2) := by rw [if_neg (show ¬ (false = true) by decide)] at H; exact H); clear H; have H := H1; clear H1; simp only [Option.some.injEq, Prod.mk.injEq] at H; obtain ⟨rfl, rfl⟩ := H; go_enter Try.func85, Try.ntmps85; (go_wp2_with (first | ((with_reducible refine gate_dst (N := 3) rfl ?_); refine box_event ?hg (N := 3) ?hd (cs := #[.int .i64 a0_0, .slice A0_1 l0_1.length c0_1]) (t := 38) ?hr ?_; (case hd => rfl); (case hg => rfl); (case hr => exact zz12); intro gb101 hg w23 hbox hb; have n0_ := Aside0.mk (below_step zz1 hb); have n1_ := Aside0.mk (hbox); have n2_ := Aside0.mk ((zz10 : w.heap.size ≤ gb101)); have n3_ := Aside0.mk ((zz10 : w.heap.size ≤ gb101)); clear HB; have HB := n0_; have BK101 := n1_; have GW101 := n2_; have GE101 := n3_; clear n0_ n1_ n2_ n3_; clear hb hbox hg; have hcz24_0 : w23.cell? ⟨gb101, 0, none⟩ = some (.int .i64 a0_0) := (blk_cell BK101.out 0).trans rfl; have hcz24_1 : w23.cell? ⟨gb101, 1, none⟩ = some (.slice A0_1 l0_1.length c0_1) := (blk_cell BK101.out 1).trans rfl; have hfz24_0 := blk_frozen BK101.out 0; have hfz24_1 := blk_frozen BK101.out 1) | ((with_reducible refine gate_callee (f := 63) rfl ?_); refine goesL_ (some 12) rfl rfl Try.func63 (by kernel_rfl) rfl #[.agg #[.int .i64 a0_0, .slice A0_1 l0_1.length c0_1], .slice A1 l1.length c1, .int .i64 a2] rfl zz3 ?_; (with_reducible refine (impl_IsParking.calls k a0_0 _ _ l0_1 _ _ l1 a2 false _ ?side1 ?side2 ?side3 ?side4 A4.out).mono ?_); (case side1 => exact zz5); (case side2 => exact HC0_1.out); (case side3 => exact zz9); (case side4 => exact HC1.out); rintro e w25 ⟨rfl, hb⟩; refine ⟨_, rfl, ?_⟩; have n0_ := Aside0.mk (blk_below (g := gb101) (o := .cells #[.int .i64 a0_0, .slice A0_1 l0_1.length c0_1] 38 (0, 0)) zz2 hb); have n1_ := Aside0.mk (below_step zz0 hb); clear BK101; clear HB; have BK101 := n0_; have HB := n1_; clear n0_ n1_; (try clear hb); (try clear hb2); (try clear hk); (try clear hi)))); (go_ret2); exact ⟨_, zz6, zz30, zz0⟩
  subst c5; (have H1 : ((impl_FullPile.f k a0_0 l0_1 a2).bind fun t103 => ((impl_NegateDivisor.f k l1).bind fun t106 => ((impl_plus.f k t103 t106).bind fun t109 => (if 0 ≤ a2 then (if a2 < (t109.length : Int) then (some ((t109.set (a2 : Int).toNat 0), true)) else (none)) else (none))))) = some (r1, r2) := by rw [if_pos rfl] at H; exact H); clear H; have H := H1; clear H1; replace H := Option.bind_eq_some_iff.mp H; obtain ⟨t103, A60, H⟩ := H; replace H : ((impl_NegateDivisor.f k l1).bind fun t106 => ((impl_plus.f k t103 t106).bind fun t109 => (if 0 ≤ a2 then (if a2 < (t109.length : Int) then (some ((t109.set (a2 : Int).toNat 0), true)) else (none)) else (none)))) = some (r1, r2) := H; have A6 := Aside0.mk A60; clear A60; replace H := Option.bind_eq_some_iff.mp H; obtain ⟨t106, A70, H⟩ := H; replace H : ((impl_plus.f k t103 t106).bind fun t109 => (if 0 ≤ a2 then (if a2 < (t109.length : Int) then (some ((t109.set (a2 : Int).toNat 0), true)) else (none)) else (none))) = some (r1, r2) := H; have A7 := Aside0.mk A70; clear A70; replace H := Option.bind_eq_some_iff.mp H; obtain ⟨t109, A80, H⟩ := H; replace H : (if 0 ≤ a2 then (if a2 < (t109.length : Int) then (some ((t109.set (a2 : Int).toNat 0), true)) else (none)) else (none)) = some (r1, r2) := H; have A8 := Aside0.mk A80; clear A80; by_cases c9 : 0 ≤ a2; rotate_left
  · rw [if_neg c9] at H; exact absurd H (by simp)
  rw [if_pos c9] at H; have c9b0 : decide (0 ≤ a2) = true := decide_eq_true c9; clear c9; by_cases c10 : a2 < (t109.length : Int); rotate_left
  · rw [if_neg c10] at H; exact absurd H (by simp)
  rw [if_pos c10] at H; have c10b0 : decide (a2 < (t109.length : Int)) = true := decide_eq_true c10; clear c10; obtain ⟨y112, hy112⟩ : ∃ y_ : List Int, y_ = (t109.set (a2 : Int).toNat 0) := ⟨_, rfl⟩; (replace H : (some (y112, true)) = some (r1, r2) := by first | (rw [hy112]; with_reducible exact H) | (have H2_ := (Option.bind_some _ _).symm.trans H; rw [hy112]; with_reducible exact H2_) | (have H2_ := (Option.bind_some _ _).symm.trans H; with_reducible exact H2_) | with_reducible exact H | (rw [hy112]; exact H) | exact H); have Ny112 := Aside0.mk hy112; clear hy112; simp only [Option.some.injEq, Prod.mk.injEq] at H; obtain ⟨rfl, rfl⟩ := H; go_enter Try.func85, Try.ntmps85; (go_wp2_with (first | ((with_reducible refine gate_dst (N := 3) rfl ?_); refine box_event ?hg (N := 3) ?hd (cs := #[.int .i64 a0_0, .slice A0_1 l0_1.length c0_1]) (t := 38) ?hr ?_; (case hd => rfl); (case hg => rfl); (case hr => exact zz12); intro gb101 hg w12 hbox hb; have n0_ := Aside0.mk (below_step zz1 hb); have n1_ := Aside0.mk (hbox); have n2_ := Aside0.mk ((zz10 : w.heap.size ≤ gb101)); have n3_ := Aside0.mk ((zz10 : w.heap.size ≤ gb101)); clear HB; have HB := n0_; have BK101 := n1_; have GW101 := n2_; have GE101 := n3_; clear n0_ n1_ n2_ n3_; clear hb hbox hg; have hcz13_0 : w12.cell? ⟨gb101, 0, none⟩ = some (.int .i64 a0_0) := (blk_cell BK101.out 0).trans rfl; have hcz13_1 : w12.cell? ⟨gb101, 1, none⟩ = some (.slice A0_1 l0_1.length c0_1) := (blk_cell BK101.out 1).trans rfl; have hfz13_0 := blk_frozen BK101.out 0; have hfz13_1 := blk_frozen BK101.out 1) | ((with_reducible refine gate_callee (f := 63) rfl ?_); refine goesL_ (some 12) rfl rfl Try.func63 (by kernel_rfl) rfl #[.agg #[.int .i64 a0_0, .slice A0_1 l0_1.length c0_1], .slice A1 l1.length c1, .int .i64 a2] rfl zz3 ?_; (with_reducible refine (impl_IsParking.calls k a0_0 _ _ l0_1 _ _ l1 a2 true _ ?side1 ?side2 ?side3 ?side4 A4.out).mono ?_); (case side1 => exact zz5); (case side2 => exact HC0_1.out); (case side3 => exact zz9); (case side4 => exact HC1.out); rintro e w14 ⟨rfl, hb⟩; refine ⟨_, rfl, ?_⟩; have n0_ := Aside0.mk (blk_below (g := gb101) (o := .cells #[.int .i64 a0_0, .slice A0_1 l0_1.length c0_1] 38 (0, 0)) zz2 hb); have n1_ := Aside0.mk (below_step zz0 hb); clear BK101; clear HB; have BK101 := n0_; have HB := n1_; clear n0_ n1_; (try clear hb); (try clear hb2); (try clear hk); (try clear hi); have hcz15_0 : w14.cell? ⟨gb101, 0, none⟩ = some (.int .i64 a0_0) := (blk_cell BK101.out 0).trans rfl; have hcz15_1 : w14.cell? ⟨gb101, 1, none⟩ = some (.slice A0_1 l0_1.length c0_1) := (blk_cell BK101.out 1).trans rfl; have hfz15_0 := blk_frozen BK101.out 0; have hfz15_1 := blk_frozen BK101.out 1) | ((with_reducible refine gate_callee (f := 48) rfl ?_); refine goesL_ (some 16) rfl rfl Try.func48 (by kernel_rfl) rfl #[.agg #[.int .i64 a0_0, .slice A0_1 l0_1.length c0_1], .int .i64 a2] rfl zz3 ?_; (with_reducible refine (impl_FullPile.calls k a0_0 _ _ l0_1 a2 t103 _ ?side1 ?side2 A6.out).mono ?_); (case side1 => exact zz5); (case side2 => exact HC0_1.out); rintro e w16 ⟨v104, rfl, ho0, hb⟩; refine ⟨_, rfl, ?_⟩; have n0_ := Aside0.mk (Kd.R_lower ho0 (below_size zz0)); have n1_ := Aside0.mk (blk_below (g := gb101) (o := .cells #[.int .i64 a0_0, .slice A0_1 l0_1.length c0_1] 38 (0, 0)) zz2 hb); have n2_ := Aside0.mk (below_step zz0 hb); clear BK101; clear HB; have HO105 := n0_; have BK101 := n1_; have HB := n2_; clear n0_ n1_ n2_; (try clear hb); (try clear hb2); (try clear hk); (try clear hi); (try clear ho0)) | ((with_reducible refine gate_callee (f := 157) rfl ?_); refine goesL_ (some 18) rfl rfl Try.func157 (by kernel_rfl) rfl #[.slice A1 l1.length c1] rfl zz3 ?_; (with_reducible refine (impl_NegateDivisor.calls k _ _ l1 t106 _ ?side1 ?side2 A7.out).mono ?_); (case side1 => exact zz9); (case side2 => exact HC1.out); rintro e w17 ⟨v107, rfl, ho0, hb⟩; refine ⟨_, rfl, ?_⟩; have n0_ := Aside0.mk (Kd.R_elder' (by (with_reducible repeat (first | apply Kd.R_alloc | apply Kd.R_drewN | apply Kd.R_drew)); exact HO105.out) (Kd.R_base ho0) hb); have n1_ := Aside0.mk (Kd.R_lower (Kd.R_new' ho0 (Kd.R_lt (by (with_reducible repeat (first | apply Kd.R_alloc | apply Kd.R_drewN | apply Kd.R_drew)); exact HO105.out))) (below_size zz0)); have n2_ := Aside0.mk (blk_below (g := gb101) (o := .cells #[.int .i64 a0_0, .slice A0_1 l0_1.length c0_1] 38 (0, 0)) zz2 hb); have n3_ := Aside0.mk (below_step zz0 hb); clear HO105; clear BK101; clear HB; have HO105 := n0_; have HO108 := n1_; have BK101 := n2_; have HB := n3_; clear n0_ n1_ n2_ n3_; (try clear hb); (try clear hb2); (try clear hk); (try clear hi); (try clear ho0); obtain ⟨Ao18, co18, eo18⟩ := Kd.R_slice HO105.out; subst eo18; obtain ⟨Ao19, co19, eo19⟩ := Kd.R_slice HO108.out; subst eo19) | ((with_reducible refine gate_callee (f := 149) rfl ?_); refine goesL_ (some 19) rfl rfl Try.func149 (by kernel_rfl) rfl #[.slice Ao18 t103.length co18, .slice Ao19 t106.length co19] rfl zz3 ?_; (with_reducible refine (impl_plus.calls k _ _ t103 _ _ t106 t109 _ ?side1 ?side2 ?side3 ?side4 A8.out).mono ?_); (case side1 => repeat (first | exact (Kd.R_reads' HO105.out).2.2 | (with_reducible refine Kd.C_alloc ?_ _) | (with_reducible refine Kd.C_drewN ?_ _) | (with_reducible refine Kd.C_drew ?_))); (case side2 => exact (Kd.R_reads' HO105.out).2.1); (case side3 => repeat (first | exact (Kd.R_reads' HO108.out).2.2 | (with_reducible refine Kd.C_alloc ?_ _) | (with_reducible refine Kd.C_drewN ?_ _) | (with_reducible refine Kd.C_drew ?_))); (case side4 => exact (Kd.R_reads' HO108.out).2.1); rintro e w20 ⟨v110, rfl, ho0, hb⟩; refine ⟨_, rfl, ?_⟩; have n0_ := Aside0.mk (Kd.R_elder' (by (with_reducible repeat (first | apply Kd.R_alloc | apply Kd.R_drewN | apply Kd.R_drew)); exact HO105.out) (Kd.R_base ho0) hb); have n1_ := Aside0.mk (Kd.R_elder' (by (with_reducible repeat (first | apply Kd.R_alloc | apply Kd.R_drewN | apply Kd.R_drew)); exact HO108.out) (Kd.R_base ho0) hb); have n2_ := Aside0.mk (Kd.R_lower (Kd.R_new' (Kd.R_new' ho0 (Kd.R_lt (by (with_reducible repeat (first | apply Kd.R_alloc | apply Kd.R_drewN | apply Kd.R_drew)); exact HO105.out))) (Kd.R_lt (by (with_reducible repeat (first | apply Kd.R_alloc | apply Kd.R_drewN | apply Kd.R_drew)); exact HO108.out))) (below_size zz0)); have n3_ := Aside0.mk (blk_below (g := gb101) (o := .cells #[.int .i64 a0_0, .slice A0_1 l0_1.length c0_1] 38 (0, 0)) zz2 hb); have n4_ := Aside0.mk (below_step zz0 hb); clear HO105; clear HO108; clear BK101; clear HB; have HO105 := n0_; have HO108 := n1_; have HO111 := n2_; have BK101 := n3_; have HB := n4_; clear n0_ n1_ n2_ n3_ n4_; (try clear hb); (try clear hb2); (try clear hk); (try clear hi); (try clear ho0); have p11 : 0 ≤ (a2 : Int) := of_decide_eq_true zz4; have q11 : (a2 : Int) < ((t109.length : Int) : Int) := of_decide_eq_true zz4; obtain ⟨go11, co11, eo11, gb11, gl11, cl11, HG11⟩ := Kd.R_form HO111.out (by omega); (first | cases eo11 | (injection eo11 with ea_ en_ ec_; (first | subst ea_ | (injection ea_ with ea_; subst ea_)); subst ec_; clear en_)); have GB11 := Aside0.mk gb11; have GG11 := Aside0.mk HG11; clear gb11 gl11 HG11; obtain ⟨hx11_0, hf11_0⟩ := Kd.R_celln 0 HO111.out (a2 : Int) p11 q11; replace p11 := eq_true p11; replace q11 := eq_true q11; have n_ := Aside0.mk (Kd.R_mono (ok' := (fun k_ => some k_ ≠ (.slice Ao18 t103.length co18 : Value).ownBlock ∧ some k_ ≠ (.slice Ao19 t106.length co19 : Value).ownBlock)) HO111.out (fun k_ hk => ⟨hk.1.2, hk.2⟩)); clear HO111; have HO111 := n_; clear n_; obtain ⟨hy21_, hz21_⟩ := Kd.R_celln 0 HO111.out (a2 : Int) (of_decide_eq_true zz4) (of_decide_eq_true zz4); have HP21 := Kd.R_putg HO111.out (a2 : Int) 0) | ((with_reducible refine gate_store (t := 3) (p := 22) rfl ?_); refine store_event (t := 3) (p := 22) (v := ?vo_w22) (w1 := (w20.setCell ⟨go11, (a2 : Int).toNat, none⟩ (.int .i64 0))) ?hg ?ho ?hn ?hr ?_; (case ho => rfl); (case hg => rfl); (case hn => rfl); (case hr => exact zz12); intro w22 hw; have hg : w20.grownBy w22 (some go11) := (by rw [hw]; exact HP21.2); have hp_ : Kd.R (Kd.int .i64) 3 w22 w.heap.size (fun k_ => some k_ ≠ (.slice Ao18 t103.length co18 : Value).ownBlock ∧ some k_ ≠ (.slice Ao19 t106.length co19 : Value).ownBlock) (.slice (some ⟨go11, 0, none⟩) t109.length co11) y112 := (by rw [hw, Ny112.out]; exact HP21.1); clear HP21; have n0_ := Aside0.mk (blk_grown (g := gb101) (o := .cells #[.int .i64 a0_0, .slice A0_1 l0_1.length c0_1] 38 (0, 0)) zz2 hg (Kd.R_ne HO111.out BK101.out (by decide))); have n1_ := Aside0.mk (Kd.R_after (v := (.slice (some ⟨go11, 0, none⟩) t109.length co11)) (v1 := (.slice (some ⟨go11, 0, none⟩) t109.length co11)) (ok := (fun k_ => some k_ ≠ (.slice Ao19 t106.length co19 : Value).ownBlock)) (by (with_reducible repeat (first | apply Kd.R_alloc | apply Kd.R_drewN | apply Kd.R_drew)); exact Kd.R_mono HO105.out (fun _ hk => ⟨hk.1.2, hk.2⟩)) hg (.inl rfl)); have n2_ := Aside0.mk (Kd.R_after (v := (.slice (some ⟨go11, 0, none⟩) t109.length co11)) (v1 := (.slice (some ⟨go11, 0, none⟩) t109.length co11)) (ok := (fun k_ => some k_ ≠ (.slice Ao18 t103.length co18 : Value).ownBlock)) (by (with_reducible repeat (first | apply Kd.R_alloc | apply Kd.R_drewN | apply Kd.R_drew)); exact Kd.R_mono HO108.out (fun _ hk => ⟨hk.1.2, hk.2⟩)) hg (.inl rfl)); have n3_ := Aside0.mk (hp_); have n4_ := Aside0.mk ((by rw [hw]; exact below_set (HB.out) GB11.out : Below w.heap.size w w22)); clear BK101; clear HO105; clear HO108; clear HO111; clear HB; have BK101 := n0_; have HO105 := n1_; have HO108 := n2_; have HO111 := n3_; have HB := n4_; clear n0_ n1_ n2_ n3_ n4_; clear hg hw hp_))); (go_ret2); exact ⟨_, zz6, by (with_reducible repeat (first | apply Kd.R_alloc | apply Kd.R_drewN | apply Kd.R_drew)); exact Kd.R_mono HO111.out (fun _ hk => trivial), zz0⟩
mutual
def laws_FnExactPileOfParking.j0 : Nat → List Int → Int → List Int → Bool → List Int → List Int → Bool → Bool → Int → List (S96) → Int → List (S70) → Option (Bool)
  | 0, _, _, _, _, _, _, _, _, _, _, _, _ => none
  | k + 1, x1, x2, x8, x9, x11, x12, x13, x55, x102000, x102001, x119000, x119001 => if x55 = true then (none) else ((laws_toGraph.f k x102000 x102001).bind fun bt127 => ((laws_eqGraph.f k x119000 x119001 bt127.1 bt127.2).bind fun t131 => (if t131 = true then ((laws_toIntS.f k x1).bind fun t132 => ((laws_eqIntS.f k x11 t132).bind fun t135 => (if t135 = true then ((laws_markGraph.f k x119000 x119001 1).bind fun bt136 => ((laws_markIntS.f k x11 bt136.1).bind fun bt138 => (if bt138.1 < 0 then (laws_FnExactPileOfParking.j1 k x1 x2 x8 x9 x12 true x102000 x102001) else ((laws_eqIntS.f k x12 x8).bind fun t140 => (if t140 = true then (laws_FnExactPileOfParking.j1 k x1 x2 x8 x9 x12 (x13 != x9) x102000 x102001) else (laws_FnExactPileOfParking.j1 k x1 x2 x8 x9 x12 true x102000 x102001)))))) else (none)))) else (none))))
def laws_FnExactPileOfParking.j1 : Nat → List Int → Int → List Int → Bool → List Int → Bool → Int → List (S96) → Option (Bool)
  | 0, _, _, _, _, _, _, _, _ => none
  | k + 1, x1, x2, x8, x9, x12, x84, x102000, x102001 => if x84 = true then (none) else ((laws_markIntS.f k x12 1).bind fun bt141 => ((laws_heldIntS.f k bt141.2 1).bind fun t143 => (if t143 < 0 then (none) else (if t143 = bt141.1 then ((laws_toGraph.f k x102000 x102001).bind fun bt144 => ((laws_toIntS.f k x1).bind fun t148 => ((impl_PileOfParking.f k bt144.1 bt144.2 t148 x2).bind fun bt151 => ((laws_eqIntS.f k bt151.1 x8).bind fun t155 => (if t155 = true then (laws_FnExactPileOfParking.j2 k bt141.2 bt141.1 (bt151.2 != x9)) else (laws_FnExactPileOfParking.j2 k bt141.2 bt141.1 true)))))) else (none)))))
def laws_FnExactPileOfParking.j2 : Nat → List Int → Int → Bool → Option (Bool)
  | 0, _, _, _ => none
  | k + 1, x12, x15, x113 => if x113 = true then (none) else ((laws_heldIntS.f k x12 1).bind fun t156 => (if t156 < 0 then (none) else (if t156 = x15 then (some true) else (none))))
end
def laws_FnExactPileOfParking.f (k : Nat) (a0_0 : Int) (l0_1 : List (S96)) (l1 : List Int) (a2 : Int) : Option (Bool) := if (l1.length : Int) > 1048576 then (some true) else ((laws_szGraph.f a0_0 l0_1 1048576).bind fun t102 => (if t102 < 0 then (some true) else ((laws_toGraph.f k a0_0 l0_1).bind fun bt103 => ((laws_toIntS.f k l1).bind fun t107 => ((spec_PileOfParking.f k bt103.1 bt103.2 t107 a2).bind fun bt110 => ((laws_toGraph.f k a0_0 l0_1).bind fun bt114 => ((laws_toIntS.f k l1).bind fun t119 => ((impl_PileOfParking.f k bt114.1 bt114.2 t119 a2).bind fun bt122 => ((laws_eqIntS.f k bt122.1 bt110.1).bind fun t126 => (if t126 = true then (laws_FnExactPileOfParking.j0 k l1 a2 bt110.1 bt110.2 t119 bt122.1 bt122.2 (bt122.2 != bt110.2) a0_0 l0_1 bt114.1 bt114.2) else (laws_FnExactPileOfParking.j0 k l1 a2 bt110.1 bt110.2 t119 bt122.1 bt122.2 true a0_0 l0_1 bt114.1 bt114.2)))))))))))
theorem laws_FnExactPileOfParking.mono_l : ∀ k, (∀ y0 y1 y2 y3 y4 y5 y6 y7 y8 y9 y10 y11, LeO (laws_FnExactPileOfParking.j0 k y0 y1 y2 y3 y4 y5 y6 y7 y8 y9 y10 y11) (laws_FnExactPileOfParking.j0 (k + 1) y0 y1 y2 y3 y4 y5 y6 y7 y8 y9 y10 y11)) ∧ (∀ y0 y1 y2 y3 y4 y5 y6 y7, LeO (laws_FnExactPileOfParking.j1 k y0 y1 y2 y3 y4 y5 y6 y7) (laws_FnExactPileOfParking.j1 (k + 1) y0 y1 y2 y3 y4 y5 y6 y7)) ∧ (∀ y0 y1 y2, LeO (laws_FnExactPileOfParking.j2 k y0 y1 y2) (laws_FnExactPileOfParking.j2 (k + 1) y0 y1 y2))
  | 0 => ⟨fun _ _ _ _ _ _ _ _ _ _ _ _ r h => by simp [laws_FnExactPileOfParking.j0] at h, fun _ _ _ _ _ _ _ _ r h => by simp [laws_FnExactPileOfParking.j1] at h, fun _ _ _ r h => by simp [laws_FnExactPileOfParking.j2] at h⟩
  | k + 1 => by
    obtain ⟨ih0, ih1, ih2⟩ := laws_FnExactPileOfParking.mono_l k
    refine ⟨?_, ?_, ?_⟩
    · intro y0 y1 y2 y3 y4 y5 y6 y7 y8 y9 y10 y11
      unfold laws_FnExactPileOfParking.j0
      exact zm2
    · intro y0 y1 y2 y3 y4 y5 y6 y7
      unfold laws_FnExactPileOfParking.j1
      exact zm2
    · intro y0 y1 y2
      unfold laws_FnExactPileOfParking.j2
      exact zm2
theorem laws_FnExactPileOfParking.mono : ∀ a0 a1 a2 a3 k, LeO (laws_FnExactPileOfParking.f k a0 a1 a2 a3) (laws_FnExactPileOfParking.f (k + 1) a0 a1 a2 a3) := by
  intro a0 a1 a2 a3 k; obtain ⟨ih0, ih1, ih2⟩ := laws_FnExactPileOfParking.mono_l k; unfold laws_FnExactPileOfParking.f; exact zm2
set_option maxHeartbeats 8000000 in
set_option maxRecDepth 100000 in
theorem laws_FnExactPileOfParking.calls (k : Nat) (a0_0 : Int) (A0_1 : Option Addr) (c0_1 : Nat) (l0_1 : List (S96)) (A1 : Option Addr) (c1 : Nat) (l1 : List Int) (a2 : Int) (r : Bool) (w : World) (hr0_1 : Kd.C k96 w A0_1 l0_1.length l0_1) (hc0_1 : l0_1.length ≤ c0_1) (hr1 : Kd.C (Kd.int .i64) w A1 l1.length l1) (hc1 : l1.length ≤ c1) (h : laws_FnExactPileOfParking.f k a0_0 l0_1 l1 a2 = some r) :
    Calls Try.prog 23 #[.agg #[.int .i64 a0_0, .slice A0_1 l0_1.length c0_1], .slice A1 l1.length c1, .int .i64 a2] w fun e w' => e = .returned (.bool r) ∧ Below w.heap.size w w' := by
  have hu33 := Try.underlying33; have hu38 := Try.underlying38; have HR0_1 := Aside0.mk hr0_1; have HC0_1 := Aside0.mk hc0_1; clear hr0_1 hc0_1; have HR1 := Aside0.mk hr1; have HC1 := Aside0.mk hc1; clear hr1 hc1; have HB := Aside0.mk (Below.refl w.heap.size w); have H : (if (l1.length : Int) > 1048576 then (some true) else ((laws_szGraph.f a0_0 l0_1 1048576).bind fun t102 => (if t102 < 0 then (some true) else ((laws_toGraph.f k a0_0 l0_1).bind fun bt103 => ((laws_toIntS.f k l1).bind fun t107 => ((spec_PileOfParking.f k bt103.1 bt103.2 t107 a2).bind fun bt110 => ((laws_toGraph.f k a0_0 l0_1).bind fun bt114 => ((laws_toIntS.f k l1).bind fun t119 => ((impl_PileOfParking.f k bt114.1 bt114.2 t119 a2).bind fun bt122 => ((laws_eqIntS.f k bt122.1 bt110.1).bind fun t126 => (if t126 = true then (laws_FnExactPileOfParking.j0 k l1 a2 bt110.1 bt110.2 t119 bt122.1 bt122.2 (bt122.2 != bt110.2) a0_0 l0_1 bt114.1 bt114.2) else (laws_FnExactPileOfParking.j0 k l1 a2 bt110.1 bt110.2 t119 bt122.1 bt122.2 true a0_0 l0_1 bt114.1 bt114.2)))))))))))) = some r := h; clear h; by_cases c4 : (l1.length : Int) > 1048576
  · rw [if_pos c4] at H; have c4b0 : decide (1048576 < (l1.length : Int)) = true := decide_eq_true c4; have c4b1 : decide (1048576 < l1.length) = true := decide_eq_true (by omega); clear c4; obtain rfl := Option.some.inj H; go_enter Try.func23, Try.ntmps23; (go_wp2_with (first | ((with_reducible refine gate_dst (N := 3) rfl ?_); refine box_event ?hg (N := 3) ?hd (cs := #[.int .i64 a0_0, .slice A0_1 l0_1.length c0_1]) (t := 33) ?hr ?_; (case hd => rfl); (case hg => rfl); (case hr => exact zz12); intro gb101 hg w5 hbox hb; have n0_ := Aside0.mk (below_step zz1 hb); have n1_ := Aside0.mk (hbox); have n2_ := Aside0.mk ((zz10 : w.heap.size ≤ gb101)); have n3_ := Aside0.mk ((zz10 : w.heap.size ≤ gb101)); clear HB; have HB := n0_; have BK101 := n1_; have GW101 := n2_; have GE101 := n3_; clear n0_ n1_ n2_ n3_; clear hb hbox hg))); go_ret; exact ⟨zz6, zz0⟩
  rw [if_neg c4] at H; have c4b0 : decide (1048576 < (l1.length : Int)) = false := decide_eq_false c4; have c4b1 : decide (1048576 < l1.length) = false := decide_eq_false (by omega); clear c4; replace H := Option.bind_eq_some_iff.mp H; obtain ⟨t102, A60, H⟩ := H; replace H : (if t102 < 0 then (some true) else ((laws_toGraph.f k a0_0 l0_1).bind fun bt103 => ((laws_toIntS.f k l1).bind fun t107 => ((spec_PileOfParking.f k bt103.1 bt103.2 t107 a2).bind fun bt110 => ((laws_toGraph.f k a0_0 l0_1).bind fun bt114 => ((laws_toIntS.f k l1).bind fun t119 => ((impl_PileOfParking.f k bt114.1 bt114.2 t119 a2).bind fun bt122 => ((laws_eqIntS.f k bt122.1 bt110.1).bind fun t126 => (if t126 = true then (laws_FnExactPileOfParking.j0 k l1 a2 bt110.1 bt110.2 t119 bt122.1 bt122.2 (bt122.2 != bt110.2) a0_0 l0_1 bt114.1 bt114.2) else (laws_FnExactPileOfParking.j0 k l1 a2 bt110.1 bt110.2 t119 bt122.1 bt122.2 true a0_0 l0_1 bt114.1 bt114.2)))))))))) = some r := H; have A6 := Aside0.mk A60; clear A60; by_cases c7 : t102 < 0
  · rw [if_pos c7] at H; have c7b0 : decide (t102 < 0) = true := decide_eq_true c7; clear c7; obtain rfl := Option.some.inj H; go_enter Try.func23, Try.ntmps23; (go_wp2_with (first | ((with_reducible refine gate_dst (N := 3) rfl ?_); refine box_event ?hg (N := 3) ?hd (cs := #[.int .i64 a0_0, .slice A0_1 l0_1.length c0_1]) (t := 33) ?hr ?_; (case hd => rfl); (case hg => rfl); (case hr => exact zz12); intro gb101 hg w8 hbox hb; have n0_ := Aside0.mk (below_step zz1 hb); have n1_ := Aside0.mk (hbox); have n2_ := Aside0.mk ((zz10 : w.heap.size ≤ gb101)); have n3_ := Aside0.mk ((zz10 : w.heap.size ≤ gb101)); clear HB; have HB := n0_; have BK101 := n1_; have GW101 := n2_; have GE101 := n3_; clear n0_ n1_ n2_ n3_; clear hb hbox hg; have hcz9_0 : w8.cell? ⟨gb101, 0, none⟩ = some (.int .i64 a0_0) := (blk_cell BK101.out 0).trans rfl; have hcz9_1 : w8.cell? ⟨gb101, 1, none⟩ = some (.slice A0_1 l0_1.length c0_1) := (blk_cell BK101.out 1).trans rfl; have hfz9_0 := blk_frozen BK101.out 0; have hfz9_1 := blk_frozen BK101.out 1) | ((with_reducible refine gate_callee (f := 41) rfl ?_); refine goesL_ (some 24) rfl rfl Try.func41 (by kernel_rfl) rfl #[.agg #[.int .i64 a0_0, .slice A0_1 l0_1.length c0_1], .int .i64 1048576] rfl zz3 ?_; (with_reducible refine (laws_szGraph.calls a0_0 _ _ l0_1 1048576 t102 _ ?side1 ?side2 A6.out).mono ?_); (case side1 => exact zz5); (case side2 => exact HC0_1.out); rintro e w10 ⟨rfl, hb⟩; refine ⟨_, rfl, ?_⟩; have n0_ := Aside0.mk (blk_below (g := gb101) (o := .cells #[.int .i64 a0_0, .slice A0_1 l0_1.length c0_1] 33 (0, 0)) zz2 hb); have n1_ := Aside0.mk (below_step zz0 hb); clear BK101; clear HB; have BK101 := n0_; have HB := n1_; clear n0_ n1_; (try clear hb); (try clear hb2); (try clear hk); (try clear hi)))); go_ret; exact ⟨zz6, zz0⟩
  rw [if_neg c7] at H; have c7b0 : decide (t102 < 0) = false := decide_eq_false c7; clear c7; replace H := Option.bind_eq_some_iff.mp H; obtain ⟨⟨t103, t104⟩, A110, H⟩ := H; replace H : ((laws_toIntS.f k l1).bind fun t107 => ((spec_PileOfParking.f k t103 t104 t107 a2).bind fun bt110 => ((laws_toGraph.f k a0_0 l0_1).bind fun bt114 => ((laws_toIntS.f k l1).bind fun t119 => ((impl_PileOfParking.f k bt114.1 bt114.2 t119 a2).bind fun bt122 => ((laws_eqIntS.f k bt122.1 bt110.1).bind fun t126 => (if t126 = true then (laws_FnExactPileOfParking.j0 k l1 a2 bt110.1 bt110.2 t119 bt122.1 bt122.2 (bt122.2 != bt110.2) a0_0 l0_1 bt114.1 bt114.2) else (laws_FnExactPileOfParking.j0 k l1 a2 bt110.1 bt110.2 t119 bt122.1 bt122.2 true a0_0 l0_1 bt114.1 bt114.2)))))))) = some r := H; have A11 := Aside0.mk A110; clear A110; replace H := Option.bind_eq_some_iff.mp H; obtain ⟨t107, A120, H⟩ := H; replace H : ((spec_PileOfParking.f k t103 t104 t107 a2).bind fun bt110 => ((laws_toGraph.f k a0_0 l0_1).bind fun bt114 => ((laws_toIntS.f k l1).bind fun t119 => ((impl_PileOfParking.f k bt114.1 bt114.2 t119 a2).bind fun bt122 => ((laws_eqIntS.f k bt122.1 bt110.1).bind fun t126 => (if t126 = true then (laws_FnExactPileOfParking.j0 k l1 a2 bt110.1 bt110.2 t119 bt122.1 bt122.2 (bt122.2 != bt110.2) a0_0 l0_1 bt114.1 bt114.2) else (laws_FnExactPileOfParking.j0 k l1 a2 bt110.1 bt110.2 t119 bt122.1 bt122.2 true a0_0 l0_1 bt114.1 bt114.2))))))) = some r := H; have A12 := Aside0.mk A120; clear A120; replace H := Option.bind_eq_some_iff.mp H; obtain ⟨⟨t110, t113⟩, A130, H⟩ := H; replace H : ((laws_toGraph.f k a0_0 l0_1).bind fun bt114 => ((laws_toIntS.f k l1).bind fun t119 => ((impl_PileOfParking.f k bt114.1 bt114.2 t119 a2).bind fun bt122 => ((laws_eqIntS.f k bt122.1 t110).bind fun t126 => (if t126 = true then (laws_FnExactPileOfParking.j0 k l1 a2 t110 t113 t119 bt122.1 bt122.2 (bt122.2 != t113) a0_0 l0_1 bt114.1 bt114.2) else (laws_FnExactPileOfParking.j0 k l1 a2 t110 t113 t119 bt122.1 bt122.2 true a0_0 l0_1 bt114.1 bt114.2)))))) = some r := H; have A13 := Aside0.mk A130; clear A130; replace H := Option.bind_eq_some_iff.mp H; obtain ⟨⟨t114, t115⟩, A140, H⟩ := H; replace H : ((laws_toIntS.f k l1).bind fun t119 => ((impl_PileOfParking.f k t114 t115 t119 a2).bind fun bt122 => ((laws_eqIntS.f k bt122.1 t110).bind fun t126 => (if t126 = true then (laws_FnExactPileOfParking.j0 k l1 a2 t110 t113 t119 bt122.1 bt122.2 (bt122.2 != t113) a0_0 l0_1 t114 t115) else (laws_FnExactPileOfParking.j0 k l1 a2 t110 t113 t119 bt122.1 bt122.2 true a0_0 l0_1 t114 t115))))) = some r := H; have A14 := Aside0.mk A140; clear A140; replace H := Option.bind_eq_some_iff.mp H; obtain ⟨t119, A150, H⟩ := H; replace H : ((impl_PileOfParking.f k t114 t115 t119 a2).bind fun bt122 => ((laws_eqIntS.f k bt122.1 t110).bind fun t126 => (if t126 = true then (laws_FnExactPileOfParking.j0 k l1 a2 t110 t113 t119 bt122.1 bt122.2 (bt122.2 != t113) a0_0 l0_1 t114 t115) else (laws_FnExactPileOfParking.j0 k l1 a2 t110 t113 t119 bt122.1 bt122.2 true a0_0 l0_1 t114 t115)))) = some r := H; have A15 := Aside0.mk A150; clear A150; replace H := Option.bind_eq_some_iff.mp H; obtain ⟨⟨t122, t125⟩, A160, H⟩ := H; replace H : ((laws_eqIntS.f k t122 t110).bind fun t126 => (if t126 = true then (laws_FnExactPileOfParking.j0 k l1 a2 t110 t113 t119 t122 t125 (t125 != t113) a0_0 l0_1 t114 t115) else (laws_FnExactPileOfParking.j0 k l1 a2 t110 t113 t119 t122 t125 true a0_0 l0_1 t114 t115))) = some r := H; have A16 := Aside0.mk A160; clear A160; have HC17 := Aside0.mk H; clear H; go_enter Try.func23, Try.ntmps23; (go_upto_region 11 with (first | ((with_reducible refine gate_dst (N := 3) rfl ?_); refine box_event ?hg (N := 3) ?hd (cs := #[.int .i64 a0_0, .slice A0_1 l0_1.length c0_1]) (t := 33) ?hr ?_; (case hd => rfl); (case hg => rfl); (case hr => exact zz12); intro gb101 hg w18 hbox hb; have n0_ := Aside0.mk (below_step zz1 hb); have n1_ := Aside0.mk (hbox); have n2_ := Aside0.mk ((zz10 : w.heap.size ≤ gb101)); have n3_ := Aside0.mk ((zz10 : w.heap.size ≤ gb101)); clear HB; have HB := n0_; have BK101 := n1_; have GW101 := n2_; have GE101 := n3_; clear n0_ n1_ n2_ n3_; clear hb hbox hg; have hcz19_0 : w18.cell? ⟨gb101, 0, none⟩ = some (.int .i64 a0_0) := (blk_cell BK101.out 0).trans rfl; have hcz19_1 : w18.cell? ⟨gb101, 1, none⟩ = some (.slice A0_1 l0_1.length c0_1) := (blk_cell BK101.out 1).trans rfl; have hfz19_0 := blk_frozen BK101.out 0; have hfz19_1 := blk_frozen BK101.out 1) | ((with_reducible refine gate_callee (f := 41) rfl ?_); refine goesL_ (some 24) rfl rfl Try.func41 (by kernel_rfl) rfl #[.agg #[.int .i64 a0_0, .slice A0_1 l0_1.length c0_1], .int .i64 1048576] rfl zz3 ?_; (with_reducible refine (laws_szGraph.calls a0_0 _ _ l0_1 1048576 t102 _ ?side1 ?side2 A6.out).mono ?_); (case side1 => exact zz5); (case side2 => exact HC0_1.out); rintro e w20 ⟨rfl, hb⟩; refine ⟨_, rfl, ?_⟩; have n0_ := Aside0.mk (blk_below (g := gb101) (o := .cells #[.int .i64 a0_0, .slice A0_1 l0_1.length c0_1] 33 (0, 0)) zz2 hb); have n1_ := Aside0.mk (below_step zz0 hb); clear BK101; clear HB; have BK101 := n0_; have HB := n1_; clear n0_ n1_; (try clear hb); (try clear hb2); (try clear hk); (try clear hi); have hcz21_0 : w20.cell? ⟨gb101, 0, none⟩ = some (.int .i64 a0_0) := (blk_cell BK101.out 0).trans rfl; have hcz21_1 : w20.cell? ⟨gb101, 1, none⟩ = some (.slice A0_1 l0_1.length c0_1) := (blk_cell BK101.out 1).trans rfl; have hfz21_0 := blk_frozen BK101.out 0; have hfz21_1 := blk_frozen BK101.out 1) | ((with_reducible refine gate_callee (f := 43) rfl ?_); refine goesL_ (some 29) rfl rfl Try.func43 (by kernel_rfl) rfl #[.agg #[.int .i64 a0_0, .slice A0_1 l0_1.length c0_1]] rfl zz3 ?_; (with_reducible refine (laws_toGraph.calls k a0_0 _ _ l0_1 t103 t104 _ ?side1 ?side2 A11.out).mono ?_); (case side1 => exact zz5); (case side2 => exact HC0_1.out); rintro e w22 ⟨v105, rfl, ho0, hb⟩; refine ⟨_, rfl, ?_⟩; have n0_ := Aside0.mk (Kd.R_lower ho0 (below_size zz0)); have n1_ := Aside0.mk (blk_below (g := gb101) (o := .cells #[.int .i64 a0_0, .slice A0_1 l0_1.length c0_1] 33 (0, 0)) zz2 hb); have n2_ := Aside0.mk (below_step zz0 hb); clear BK101; clear HB; have HO106 := n0_; have BK101 := n1_; have HB := n2_; clear n0_ n1_ n2_; (try clear hb); (try clear hb2); (try clear hk); (try clear hi); (try clear ho0)) | ((with_reducible refine gate_callee (f := 44) rfl ?_); refine goesL_ (some 31) rfl rfl Try.func44 (by kernel_rfl) rfl #[.slice A1 l1.length c1] rfl zz3 ?_; (with_reducible refine (laws_toIntS.calls k _ _ l1 t107 _ ?side1 ?side2 A12.out).mono ?_); (case side1 => exact zz9); (case side2 => exact HC1.out); rintro e w23 ⟨v108, rfl, ho0, hb⟩; refine ⟨_, rfl, ?_⟩; have n0_ := Aside0.mk (Kd.R_below zz40 hb); have n1_ := Aside0.mk (Kd.R_lower ho0 (below_size zz0)); have n2_ := Aside0.mk (blk_below (g := gb101) (o := .cells #[.int .i64 a0_0, .slice A0_1 l0_1.length c0_1] 33 (0, 0)) zz2 hb); have n3_ := Aside0.mk (below_step zz0 hb); clear HO106; clear BK101; clear HB; have HO106 := n0_; have HO109 := n1_; have BK101 := n2_; have HB := n3_; clear n0_ n1_ n2_ n3_; (try clear hb); (try clear hb2); (try clear hk); (try clear hi); (try clear ho0); obtain ⟨Ao24, co24, eo24⟩ := Kd.R_slice HO106.out; subst eo24; obtain ⟨Ao25, co25, eo25⟩ := Kd.R_slice HO109.out; subst eo25) | ((with_reducible refine gate_callee (f := 84) rfl ?_); refine goesL_ (some 33) rfl rfl Try.func84 (by kernel_rfl) rfl #[.agg #[.int .i64 t103, .slice Ao24 t104.length co24], .slice Ao25 t107.length co25, .int .i64 a2] rfl zz3 ?_; (with_reducible refine (spec_PileOfParking.calls k t103 _ _ t104 _ _ t107 a2 t110 t113 _ ?side1 ?side2 ?side3 ?side4 A13.out).mono ?_); (case side1 => repeat (first | exact (Kd.R_reads' HO106.out).2.2 | (with_reducible refine Kd.C_alloc ?_ _) | (with_reducible refine Kd.C_drewN ?_ _) | (with_reducible refine Kd.C_drew ?_))); (case side2 => exact (Kd.R_reads' HO106.out).2.1); (case side3 => repeat (first | exact (Kd.R_reads' HO109.out).2.2 | (with_reducible refine Kd.C_alloc ?_ _) | (with_reducible refine Kd.C_drewN ?_ _) | (with_reducible refine Kd.C_drew ?_))); (case side4 => exact (Kd.R_reads' HO109.out).2.1); rintro e w26 ⟨v111, rfl, ho0, hb⟩; refine ⟨_, rfl, ?_⟩; have n0_ := Aside0.mk (Kd.R_below zz40 hb); have n1_ := Aside0.mk (Kd.R_elder' zz41 (Kd.R_base ho0) hb); have n2_ := Aside0.mk (Kd.R_lower (Kd.R_new' ho0 (Kd.R_lt zz41)) (below_size zz0)); have n3_ := Aside0.mk (blk_below (g := gb101) (o := .cells #[.int .i64 a0_0, .slice A0_1 l0_1.length c0_1] 33 (0, 0)) zz2 hb); have n4_ := Aside0.mk (below_step zz0 hb); clear HO106; clear HO109; clear BK101; clear HB; have HO106 := n0_; have HO109 := n1_; have HO112 := n2_; have BK101 := n3_; have HB := n4_; clear n0_ n1_ n2_ n3_ n4_; (try clear hb); (try clear hb2); (try clear hk); (try clear hi); (try clear ho0); have hcz27_0 : w26.cell? ⟨gb101, 0, none⟩ = some (.int .i64 a0_0) := (blk_cell BK101.out 0).trans rfl; have hcz27_1 : w26.cell? ⟨gb101, 1, none⟩ = some (.slice A0_1 l0_1.length c0_1) := (blk_cell BK101.out 1).trans rfl; have hfz27_0 := blk_frozen BK101.out 0; have hfz27_1 := blk_frozen BK101.out 1) | ((with_reducible refine gate_callee (f := 43) rfl ?_); refine goesL_ (some 37) rfl rfl Try.func43 (by kernel_rfl) rfl #[.agg #[.int .i64 a0_0, .slice A0_1 l0_1.length c0_1]] rfl zz3 ?_; (with_reducible refine (laws_toGraph.calls k a0_0 _ _ l0_1 t114 t115 _ ?side1 ?side2 A14.out).mono ?_); (case side1 => exact zz5); (case side2 => exact HC0_1.out); rintro e w28 ⟨v116, rfl, ho0, hb⟩; refine ⟨_, rfl, ?_⟩; have n0_ := Aside0.mk (Kd.R_elder' zz40 (Kd.R_base ho0) hb); have n1_ := Aside0.mk (Kd.R_below zz41 hb); have n2_ := Aside0.mk (Kd.R_below (by (with_reducible repeat (first | apply Kd.R_alloc | apply Kd.R_drewN | apply Kd.R_drew)); exact HO112.out) hb); have n3_ := Aside0.mk (Kd.R_lower (Kd.R_new' ho0 (Kd.R_lt zz40)) (below_size zz0)); have n4_ := Aside0.mk (blk_below (g := gb101) (o := .cells #[.int .i64 a0_0, .slice A0_1 l0_1.length c0_1] 33 (0, 0)) zz2 hb); have n5_ := Aside0.mk (below_step zz0 hb); clear HO106; clear HO109; clear HO112; clear BK101; clear HB; have HO106 := n0_; have HO109 := n1_; have HO112 := n2_; have HO117 := n3_; have BK101 := n4_; have HB := n5_; clear n0_ n1_ n2_ n3_ n4_ n5_; (try clear hb); (try clear hb2); (try clear hk); (try clear hi); (try clear ho0)) | ((with_reducible refine gate_dst (N := 10) rfl ?_); refine box_event ?hg (N := 10) ?hd (cs := #[.int .i64 0, .slice none 0 0]) (t := 38) ?hr ?_; (case hd => rfl); (case hg => rfl); (case hr => exact zz12); intro gb118 hg w29 hbox hb; have n0_ := Aside0.mk (Kd.R_below zz40 hb); have n1_ := Aside0.mk (Kd.R_below zz41 hb); have n2_ := Aside0.mk (Kd.R_below (by (with_reducible repeat (first | apply Kd.R_alloc | apply Kd.R_drewN | apply Kd.R_drew)); exact HO112.out) hb); have n3_ := Aside0.mk (Kd.R_below (by (with_reducible repeat (first | apply Kd.R_alloc | apply Kd.R_drewN | apply Kd.R_drew)); exact HO117.out) hb); have n4_ := Aside0.mk (blk_below (g := gb101) (o := .cells #[.int .i64 a0_0, .slice A0_1 l0_1.length c0_1] 33 (0, 0)) zz2 hb); have n5_ := Aside0.mk (below_step zz0 hb); have n6_ := Aside0.mk (hbox); have n7_ := Aside0.mk ((zz15 : w.heap.size ≤ gb118)); have n8_ := Aside0.mk ((zz15 : w.heap.size ≤ gb118)); have n9_ := Aside0.mk ((by rw [hg]; exact Nat.ne_of_lt (blk_lt (g := gb101) (o := .cells #[.int .i64 a0_0, .slice A0_1 l0_1.length c0_1] 33 (0, 0)) zz2) : gb101 ≠ gb118)); have n10_ := Aside0.mk ((by rw [hg]; exact Nat.ne_of_gt (blk_lt (g := gb101) (o := .cells #[.int .i64 a0_0, .slice A0_1 l0_1.length c0_1] 33 (0, 0)) zz2) : gb118 ≠ gb101)); clear HO106; clear HO109; clear HO112; clear HO117; clear BK101; clear HB; have HO106 := n0_; have HO109 := n1_; have HO112 := n2_; have HO117 := n3_; have BK101 := n4_; have HB := n5_; have BK118 := n6_; have GW118 := n7_; have GE118 := n8_; have NB101_118 := n9_; have NB118_101 := n10_; clear n0_ n1_ n2_ n3_ n4_ n5_ n6_ n7_ n8_ n9_ n10_; clear hb hbox hg; have hnb30 := NB118_101.out; have hnc30 := NB101_118.out; have hcz31_0 : w29.cell? ⟨gb118, 0, none⟩ = some (.int .i64 0) := (blk_cell BK118.out 0).trans rfl; have hcz31_1 : w29.cell? ⟨gb118, 1, none⟩ = some (.slice none 0 0) := (blk_cell BK118.out 1).trans rfl; have hfz31_0 := blk_frozen BK118.out 0; have hfz31_1 := blk_frozen BK118.out 1; obtain ⟨Ao32, co32, eo32⟩ := Kd.R_slice HO117.out; subst eo32) | ((with_reducible refine gate_callee (f := 44) rfl ?_); refine goesL_ (some 39) rfl rfl Try.func44 (by kernel_rfl) rfl #[.slice A1 l1.length c1] rfl zz3 ?_; (with_reducible refine (laws_toIntS.calls k _ _ l1 t119 _ ?side1 ?side2 A15.out).mono ?_); (case side1 => exact Kd.C_below HR1.out zz14); (case side2 => exact HC1.out); rintro e w33 ⟨v120, rfl, ho0, hb⟩; refine ⟨_, rfl, ?_⟩; have n0_ := Aside0.mk (Kd.R_below (by (with_reducible repeat (first | apply Kd.R_alloc | apply Kd.R_drewN | apply Kd.R_drew)); exact (Kd.R_mono (Kd.R_far (p := ⟨gb118, 1, none⟩) (Kd.R_far (p := ⟨gb118, 0, none⟩) (Kd.R_types HO106.out BK118.out (by decide)) (fun _ hk => hk.2) (.int .i64 t114)) (fun _ hk => hk.2) (.slice Ao32 t115.length co32)) (fun _ h_ => h_.1))) hb); have n1_ := Aside0.mk (Kd.R_elder' zz55 (Kd.R_base ho0) hb); have n2_ := Aside0.mk (Kd.R_elder' zz56 (Kd.R_base ho0) hb); have n3_ := Aside0.mk (Kd.R_below (by (with_reducible repeat (first | apply Kd.R_alloc | apply Kd.R_drewN | apply Kd.R_drew)); exact (Kd.R_mono (Kd.R_far (p := ⟨gb118, 1, none⟩) (Kd.R_far (p := ⟨gb118, 0, none⟩) (Kd.R_types HO117.out BK118.out (by decide)) (fun _ hk => hk.2) (.int .i64 t114)) (fun _ hk => hk.2) (.slice Ao32 t115.length co32)) (fun _ h_ => h_.1))) hb); have n4_ := Aside0.mk (Kd.R_lower (Kd.R_new' (Kd.R_new' ho0 (Kd.R_lt zz55)) (Kd.R_lt zz56)) (below_size zz14)); have n5_ := Aside0.mk (blk_below (g := gb101) (o := .cells #[.int .i64 a0_0, .slice A0_1 l0_1.length c0_1] 33 (0, 0)) (by (with_reducible repeat (first | refine blk_drewN ?_ _ | refine blk_drew ?_ | refine blk_alloc ?_ _)); refine blk_far ?_ NB101_118.out _; (with_reducible repeat (first | refine blk_drewN ?_ _ | refine blk_drew ?_ | refine blk_alloc ?_ _)); refine blk_far ?_ NB101_118.out _; (with_reducible repeat (first | refine blk_drewN ?_ _ | refine blk_drew ?_ | refine blk_alloc ?_ _)); exact BK101.out) hb); have n6_ := Aside0.mk (blk_below (g := gb118) (o := .cells #[.int .i64 t114, .slice Ao32 t115.length co32] 38 (0, 0)) (by (with_reducible repeat (first | refine blk_drewN ?_ _ | refine blk_drew ?_ | refine blk_alloc ?_ _)); refine blk_put (cs := #[.int .i64 t114, .slice none 0 0]) ?_ 1 _ rfl; (with_reducible repeat (first | refine blk_drewN ?_ _ | refine blk_drew ?_ | refine blk_alloc ?_ _)); refine blk_put (cs := #[.int .i64 0, .slice none 0 0]) ?_ 0 _ rfl; (with_reducible repeat (first | refine blk_drewN ?_ _ | refine blk_drew ?_ | refine blk_alloc ?_ _)); exact BK118.out) hb); have n7_ := Aside0.mk (below_step zz14 hb); clear HO106; clear HO109; clear HO112; clear HO117; clear BK101; clear BK118; clear HB; have HO106 := n0_; have HO109 := n1_; have HO112 := n2_; have HO117 := n3_; have HO121 := n4_; have BK101 := n5_; have BK118 := n6_; have HB := n7_; clear n0_ n1_ n2_ n3_ n4_ n5_ n6_ n7_; (try clear hb); (try clear hb2); (try clear hk); (try clear hi); (try clear ho0); have hcz34_0 : w33.cell? ⟨gb118, 0, none⟩ = some (.int .i64 t114) := (blk_cell BK118.out 0).trans rfl; have hcz34_1 : w33.cell? ⟨gb118, 1, none⟩ = some (.slice Ao32 t115.length co32) := (blk_cell BK118.out 1).trans rfl; have hfz34_0 := blk_frozen BK118.out 0; have hfz34_1 := blk_frozen BK118.out 1; obtain ⟨Ao35, co35, eo35⟩ := Kd.R_slice HO121.out; subst eo35) | ((with_reducible refine gate_callee (f := 85) rfl ?_); refine goesL_ (some 44) rfl rfl Try.func85 (by kernel_rfl) rfl #[.agg #[.int .i64 t114, .slice Ao32 t115.length co32], .slice Ao35 t119.length co35, .int .i64 a2] rfl zz3 ?_; (with_reducible refine (impl_PileOfParking.calls k t114 _ _ t115 _ _ t119 a2 t122 t125 _ ?side1 ?side2 ?side3 ?side4 A16.out).mono ?_); (case side1 => repeat (first | exact (Kd.R_reads' HO117.out).2.2 | (with_reducible refine Kd.C_alloc ?_ _) | (with_reducible refine Kd.C_drewN ?_ _) | (with_reducible refine Kd.C_drew ?_))); (case side2 => exact (Kd.R_reads' HO117.out).2.1); (case side3 => repeat (first | exact (Kd.R_reads' HO121.out).2.2 | (with_reducible refine Kd.C_alloc ?_ _) | (with_reducible refine Kd.C_drewN ?_ _) | (with_reducible refine Kd.C_drew ?_))); (case side4 => exact (Kd.R_reads' HO121.out).2.1); rintro e w36 ⟨v123, rfl, ho0, hb⟩; refine ⟨_, rfl, ?_⟩; have n0_ := Aside0.mk (Kd.R_below zz40 hb); have n1_ := Aside0.mk (Kd.R_elder' zz41 (Kd.R_base ho0) hb); have n2_ := Aside0.mk (Kd.R_elder' (by (with_reducible repeat (first | apply Kd.R_alloc | apply Kd.R_drewN | apply Kd.R_drew)); exact HO112.out) (Kd.R_base ho0) hb); have n3_ := Aside0.mk (Kd.R_below (by (with_reducible repeat (first | apply Kd.R_alloc | apply Kd.R_drewN | apply Kd.R_drew)); exact HO117.out) hb); have n4_ := Aside0.mk (Kd.R_elder' (by (with_reducible repeat (first | apply Kd.R_alloc | apply Kd.R_drewN | apply Kd.R_drew)); exact HO121.out) (Kd.R_base ho0) hb); have n5_ := Aside0.mk (Kd.R_lower (Kd.R_new' (Kd.R_new' (Kd.R_new' ho0 (Kd.R_lt zz41)) (Kd.R_lt (by (with_reducible repeat (first | apply Kd.R_alloc | apply Kd.R_drewN | apply Kd.R_drew)); exact HO112.out))) (Kd.R_lt (by (with_reducible repeat (first | apply Kd.R_alloc | apply Kd.R_drewN | apply Kd.R_drew)); exact HO121.out))) (below_size zz14)); have n6_ := Aside0.mk (blk_below (g := gb101) (o := .cells #[.int .i64 a0_0, .slice A0_1 l0_1.length c0_1] 33 (0, 0)) zz2 hb); have n7_ := Aside0.mk (blk_below (g := gb118) (o := .cells #[.int .i64 t114, .slice Ao32 t115.length co32] 38 (0, 0)) zz23 hb); have n8_ := Aside0.mk (below_step zz14 hb); clear HO106; clear HO109; clear HO112; clear HO117; clear HO121; clear BK101; clear BK118; clear HB; have HO106 := n0_; have HO109 := n1_; have HO112 := n2_; have HO117 := n3_; have HO121 := n4_; have HO124 := n5_; have BK101 := n6_; have BK118 := n7_; have HB := n8_; clear n0_ n1_ n2_ n3_ n4_ n5_ n6_ n7_ n8_; (try clear hb); (try clear hb2); (try clear hk); (try clear hi); (try clear ho0)))); (try simp only [Act.put, List.setIfInBounds_toArray, List.set_cons_zero, List.set_cons_succ]); go_cut [55] (fun v55 wc => ∃ (kq : Nat) (x55_16 : Bool), v55 = .bool x55_16 ∧ Aside0 (laws_FnExactPileOfParking.j0 kq l1 a2 t110 t113 t119 t122 t125 x55_16 a0_0 l0_1 t114 t115 = some r) ∧ Aside0 (kq ≤ k) ∧ Aside0 (Kd.R (Kd.int .i64) 3 wc w.heap.size (fun k_ => some k_ ≠ ((.slice Ao35 t119.length co35) : Value).ownBlock ∧ some k_ ≠ (v123 : Value).ownBlock) v111 t110) ∧ Aside0 (Kd.R (Kd.int .i64) 3 wc w.heap.size (fun k_ => some k_ ≠ (v111 : Value).ownBlock ∧ some k_ ≠ (v123 : Value).ownBlock) (.slice Ao35 t119.length co35) t119) ∧ Aside0 (Kd.R (Kd.int .i64) 3 wc w.heap.size (fun k_ => some k_ ≠ (v111 : Value).ownBlock ∧ some k_ ≠ ((.slice Ao35 t119.length co35) : Value).ownBlock) v123 t122) ∧ Aside0 (Kd.R k70 70 wc w.heap.size (fun _ => True) (.slice Ao32 t115.length co32) t115) ∧ Aside0 (wc.heap[gb101]? = some (.cells #[.int .i64 a0_0, (.slice A0_1 l0_1.length c0_1)] 33 (0, 0))) ∧ Aside0 (wc.heap[gb118]? = some (.cells #[.int .i64 t114, (.slice Ao32 t115.length co32)] 38 (0, 0))) ∧ Aside0 (Below w.heap.size w wc))
  case first =>
    have H := HC17.out; clear HC17; replace H := Option.bind_eq_some_iff.mp H; obtain ⟨t126, A370, H⟩ := H; replace H : (if t126 = true then (laws_FnExactPileOfParking.j0 k l1 a2 t110 t113 t119 t122 t125 (t125 != t113) a0_0 l0_1 t114 t115) else (laws_FnExactPileOfParking.j0 k l1 a2 t110 t113 t119 t122 t125 true a0_0 l0_1 t114 t115)) = some r := H; have A37 := Aside0.mk A370; clear A370; by_cases c38 : t126 = true
    · subst c38; (have H1 : (laws_FnExactPileOfParking.j0 k l1 a2 t110 t113 t119 t122 t125 (t125 != t113) a0_0 l0_1 t114 t115) = some r := by rw [if_pos rfl] at H; exact H); clear H; have H := H1; clear H1; have H' := Aside0.mk H; clear H; obtain ⟨Ao39, co39, eo39⟩ := Kd.R_slice HO124.out; subst eo39; obtain ⟨Ao40, co40, eo40⟩ := Kd.R_slice HO112.out; subst eo40; (go_wp2_with (first | ((with_reducible refine gate_callee (f := 36) rfl ?_); refine goesL_ (some 49) rfl rfl Try.func36 (by kernel_rfl) rfl #[.slice Ao39 t122.length co39, .slice Ao40 t110.length co40] rfl zz3 ?_; (with_reducible refine (laws_eqIntS.calls k _ _ t122 _ _ t110 true _ ?side1 ?side2 ?side3 ?side4 A37.out).mono ?_); (case side1 => repeat (first | exact (Kd.R_reads' HO124.out).2.2 | (with_reducible refine Kd.C_alloc ?_ _) | (with_reducible refine Kd.C_drewN ?_ _) | (with_reducible refine Kd.C_drew ?_))); (case side2 => exact (Kd.R_reads' HO124.out).2.1); (case side3 => repeat (first | exact (Kd.R_reads' HO112.out).2.2 | (with_reducible refine Kd.C_alloc ?_ _) | (with_reducible refine Kd.C_drewN ?_ _) | (with_reducible refine Kd.C_drew ?_))); (case side4 => exact (Kd.R_reads' HO112.out).2.1); rintro e w' ⟨rfl, ⟨nd, rfl⟩⟩; refine ⟨_, rfl, ?_⟩))); (go_meet); case rel => exact ⟨_, ((t125 != t113)), zz7, H', ⟨by first | omega | exact Nat.le_refl _⟩, ⟨by (with_reducible repeat (first | apply Kd.R_alloc | apply Kd.R_drewN | apply Kd.R_drew)); exact Kd.R_mono HO112.out (fun _ hk => ⟨hk.1.2, hk.2⟩)⟩, ⟨by (with_reducible repeat (first | apply Kd.R_alloc | apply Kd.R_drewN | apply Kd.R_drew)); exact Kd.R_mono HO121.out (fun _ hk => ⟨hk.1.2, hk.2⟩)⟩, ⟨by (with_reducible repeat (first | apply Kd.R_alloc | apply Kd.R_drewN | apply Kd.R_drew)); exact Kd.R_mono HO124.out (fun _ hk => ⟨hk.1.2, hk.2⟩)⟩, ⟨by (with_reducible repeat (first | apply Kd.R_alloc | apply Kd.R_drewN | apply Kd.R_drew)); exact Kd.R_mono HO117.out (fun _ hk => trivial)⟩, ⟨zz2⟩, ⟨zz23⟩, ⟨zz14⟩⟩
    replace c38 := Bool.eq_false_iff.mpr c38; subst c38; (have H1 : (laws_FnExactPileOfParking.j0 k l1 a2 t110 t113 t119 t122 t125 true a0_0 l0_1 t114 t115) = some r := by rw [if_neg (show ¬ (false = true) by decide)] at H; exact H); clear H; have H := H1; clear H1; have H' := Aside0.mk H; clear H; obtain ⟨Ao41, co41, eo41⟩ := Kd.R_slice HO124.out; subst eo41; obtain ⟨Ao42, co42, eo42⟩ := Kd.R_slice HO112.out; subst eo42; (go_wp2_with (first | ((with_reducible refine gate_callee (f := 36) rfl ?_); refine goesL_ (some 49) rfl rfl Try.func36 (by kernel_rfl) rfl #[.slice Ao41 t122.length co41, .slice Ao42 t110.length co42] rfl zz3 ?_; (with_reducible refine (laws_eqIntS.calls k _ _ t122 _ _ t110 false _ ?side1 ?side2 ?side3 ?side4 A37.out).mono ?_); (case side1 => repeat (first | exact (Kd.R_reads' HO124.out).2.2 | (with_reducible refine Kd.C_alloc ?_ _) | (with_reducible refine Kd.C_drewN ?_ _) | (with_reducible refine Kd.C_drew ?_))); (case side2 => exact (Kd.R_reads' HO124.out).2.1); (case side3 => repeat (first | exact (Kd.R_reads' HO112.out).2.2 | (with_reducible refine Kd.C_alloc ?_ _) | (with_reducible refine Kd.C_drewN ?_ _) | (with_reducible refine Kd.C_drew ?_))); (case side4 => exact (Kd.R_reads' HO112.out).2.1); rintro e w' ⟨rfl, ⟨nd, rfl⟩⟩; refine ⟨_, rfl, ?_⟩))); (go_meet); case rel => exact ⟨_, (true), zz7, H', ⟨by first | omega | exact Nat.le_refl _⟩, ⟨by (with_reducible repeat (first | apply Kd.R_alloc | apply Kd.R_drewN | apply Kd.R_drew)); exact Kd.R_mono HO112.out (fun _ hk => ⟨hk.1.2, hk.2⟩)⟩, ⟨by (with_reducible repeat (first | apply Kd.R_alloc | apply Kd.R_drewN | apply Kd.R_drew)); exact Kd.R_mono HO121.out (fun _ hk => ⟨hk.1.2, hk.2⟩)⟩, ⟨by (with_reducible repeat (first | apply Kd.R_alloc | apply Kd.R_drewN | apply Kd.R_drew)); exact Kd.R_mono HO124.out (fun _ hk => ⟨hk.1.2, hk.2⟩)⟩, ⟨by (with_reducible repeat (first | apply Kd.R_alloc | apply Kd.R_drewN | apply Kd.R_drew)); exact Kd.R_mono HO117.out (fun _ hk => trivial)⟩, ⟨zz2⟩, ⟨zz23⟩, ⟨zz14⟩⟩
  case rest =>
    clear HC17; (try clear c1); (try clear c2); (try clear p2); (try clear c3); (try clear c4); (try clear c4b0); (try clear c4b1); (try clear c7); (try clear c7b0); (try clear c8); (try clear c23); (try clear c30); (try clear c36); (try clear c38); (try clear c41); (try clear hcz19_0); (try clear hcz19_1); (try clear hcz21_0); (try clear hcz21_1); (try clear hcz27_0); (try clear hcz27_1); (try clear hcz31_0); (try clear hcz31_1); (try clear hcz34_0); (try clear hcz34_1); (try clear hcz9_0); (try clear hcz9_1); (try clear hfz19_0); (try clear hfz19_1); (try clear hfz21_0); (try clear hfz21_1); (try clear hfz27_0); (try clear hfz27_1); (try clear hfz31_0); (try clear hfz31_1); (try clear hfz34_0); (try clear hfz34_1); (try clear hfz9_0); (try clear hfz9_1); obtain ⟨kq, x55_16, rfl, HA, HJ16, HO_8, HO_11, HO_12, HO_119001, BK101, BK118, HB⟩ := hcut
    cases kq with
    | zero => exact absurd HA.out (by simp [laws_FnExactPileOfParking.j0])
    | succ kj16 =>
      have H := HA.out; clear HA; simp only [laws_FnExactPileOfParking.j0] at H; by_cases c43 : x55_16 = true
      · subst c43; (have H1 : (none) = some r := by rw [if_pos rfl] at H; exact H); clear H; have H := H1; clear H1; exact absurd H (by simp)
      replace c43 := Bool.eq_false_iff.mpr c43; subst c43; (have H1 : ((laws_toGraph.f kj16 a0_0 l0_1).bind fun bt127 => ((laws_eqGraph.f kj16 t114 t115 bt127.1 bt127.2).bind fun t131 => (if t131 = true then ((laws_toIntS.f kj16 l1).bind fun t132 => ((laws_eqIntS.f kj16 t119 t132).bind fun t135 => (if t135 = true then ((laws_markGraph.f kj16 t114 t115 1).bind fun bt136 => ((laws_markIntS.f kj16 t119 bt136.1).bind fun bt138 => (if bt138.1 < 0 then (laws_FnExactPileOfParking.j1 kj16 l1 a2 t110 t113 t122 true a0_0 l0_1) else ((laws_eqIntS.f kj16 t122 t110).bind fun t140 => (if t140 = true then (laws_FnExactPileOfParking.j1 kj16 l1 a2 t110 t113 t122 (t125 != t113) a0_0 l0_1) else (laws_FnExactPileOfParking.j1 kj16 l1 a2 t110 t113 t122 true a0_0 l0_1)))))) else (none)))) else (none)))) = some r := by rw [if_neg (show ¬ (false = true) by decide)] at H; exact H); clear H; have H := H1; clear H1; replace H := Option.bind_eq_some_iff.mp H; obtain ⟨⟨t127, t128⟩, A440, H⟩ := H; replace H : ((laws_eqGraph.f kj16 t114 t115 t127 t128).bind fun t131 => (if t131 = true then ((laws_toIntS.f kj16 l1).bind fun t132 => ((laws_eqIntS.f kj16 t119 t132).bind fun t135 => (if t135 = true then ((laws_markGraph.f kj16 t114 t115 1).bind fun bt136 => ((laws_markIntS.f kj16 t119 bt136.1).bind fun bt138 => (if bt138.1 < 0 then (laws_FnExactPileOfParking.j1 kj16 l1 a2 t110 t113 t122 true a0_0 l0_1) else ((laws_eqIntS.f kj16 t122 t110).bind fun t140 => (if t140 = true then (laws_FnExactPileOfParking.j1 kj16 l1 a2 t110 t113 t122 (t125 != t113) a0_0 l0_1) else (laws_FnExactPileOfParking.j1 kj16 l1 a2 t110 t113 t122 true a0_0 l0_1)))))) else (none)))) else (none))) = some r := H; have A44 := Aside0.mk A440; clear A440; replace H := Option.bind_eq_some_iff.mp H; obtain ⟨t131, A450, H⟩ := H; replace H : (if t131 = true then ((laws_toIntS.f kj16 l1).bind fun t132 => ((laws_eqIntS.f kj16 t119 t132).bind fun t135 => (if t135 = true then ((laws_markGraph.f kj16 t114 t115 1).bind fun bt136 => ((laws_markIntS.f kj16 t119 bt136.1).bind fun bt138 => (if bt138.1 < 0 then (laws_FnExactPileOfParking.j1 kj16 l1 a2 t110 t113 t122 true a0_0 l0_1) else ((laws_eqIntS.f kj16 t122 t110).bind fun t140 => (if t140 = true then (laws_FnExactPileOfParking.j1 kj16 l1 a2 t110 t113 t122 (t125 != t113) a0_0 l0_1) else (laws_FnExactPileOfParking.j1 kj16 l1 a2 t110 t113 t122 true a0_0 l0_1)))))) else (none)))) else (none)) = some r := H; have A45 := Aside0.mk A450; clear A450; by_cases c46 : t131 = true; rotate_left
      · replace c46 := Bool.eq_false_iff.mpr c46; subst c46; (have H1 : (none) = some r := by rw [if_neg (show ¬ (false = true) by decide)] at H; exact H); clear H; have H := H1; clear H1; exact absurd H (by simp)
      subst c46; (have H1 : ((laws_toIntS.f kj16 l1).bind fun t132 => ((laws_eqIntS.f kj16 t119 t132).bind fun t135 => (if t135 = true then ((laws_markGraph.f kj16 t114 t115 1).bind fun bt136 => ((laws_markIntS.f kj16 t119 bt136.1).bind fun bt138 => (if bt138.1 < 0 then (laws_FnExactPileOfParking.j1 kj16 l1 a2 t110 t113 t122 true a0_0 l0_1) else ((laws_eqIntS.f kj16 t122 t110).bind fun t140 => (if t140 = true then (laws_FnExactPileOfParking.j1 kj16 l1 a2 t110 t113 t122 (t125 != t113) a0_0 l0_1) else (laws_FnExactPileOfParking.j1 kj16 l1 a2 t110 t113 t122 true a0_0 l0_1)))))) else (none)))) = some r := by rw [if_pos rfl] at H; exact H); clear H; have H := H1; clear H1; replace H := Option.bind_eq_some_iff.mp H; obtain ⟨t132, A470, H⟩ := H; replace H : ((laws_eqIntS.f kj16 t119 t132).bind fun t135 => (if t135 = true then ((laws_markGraph.f kj16 t114 t115 1).bind fun bt136 => ((laws_markIntS.f kj16 t119 bt136.1).bind fun bt138 => (if bt138.1 < 0 then (laws_FnExactPileOfParking.j1 kj16 l1 a2 t110 t113 t122 true a0_0 l0_1) else ((laws_eqIntS.f kj16 t122 t110).bind fun t140 => (if t140 = true then (laws_FnExactPileOfParking.j1 kj16 l1 a2 t110 t113 t122 (t125 != t113) a0_0 l0_1) else (laws_FnExactPileOfParking.j1 kj16 l1 a2 t110 t113 t122 true a0_0 l0_1)))))) else (none))) = some r := H; have A47 := Aside0.mk A470; clear A470; replace H := Option.bind_eq_some_iff.mp H; obtain ⟨t135, A480, H⟩ := H; replace H : (if t135 = true then ((laws_markGraph.f kj16 t114 t115 1).bind fun bt136 => ((laws_markIntS.f kj16 t119 bt136.1).bind fun bt138 => (if bt138.1 < 0 then (laws_FnExactPileOfParking.j1 kj16 l1 a2 t110 t113 t122 true a0_0 l0_1) else ((laws_eqIntS.f kj16 t122 t110).bind fun t140 => (if t140 = true then (laws_FnExactPileOfParking.j1 kj16 l1 a2 t110 t113 t122 (t125 != t113) a0_0 l0_1) else (laws_FnExactPileOfParking.j1 kj16 l1 a2 t110 t113 t122 true a0_0 l0_1)))))) else (none)) = some r := H; have A48 := Aside0.mk A480; clear A480; by_cases c49 : t135 = true; rotate_left
      · replace c49 := Bool.eq_false_iff.mpr c49; subst c49; (have H1 : (none) = some r := by rw [if_neg (show ¬ (false = true) by decide)] at H; exact H); clear H; have H := H1; clear H1; exact absurd H (by simp)
      subst c49; (have H1 : ((laws_markGraph.f kj16 t114 t115 1).bind fun bt136 => ((laws_markIntS.f kj16 t119 bt136.1).bind fun bt138 => (if bt138.1 < 0 then (laws_FnExactPileOfParking.j1 kj16 l1 a2 t110 t113 t122 true a0_0 l0_1) else ((laws_eqIntS.f kj16 t122 t110).bind fun t140 => (if t140 = true then (laws_FnExactPileOfParking.j1 kj16 l1 a2 t110 t113 t122 (t125 != t113) a0_0 l0_1) else (laws_FnExactPileOfParking.j1 kj16 l1 a2 t110 t113 t122 true a0_0 l0_1)))))) = some r := by rw [if_pos rfl] at H; exact H); clear H; have H := H1; clear H1; replace H := Option.bind_eq_some_iff.mp H; obtain ⟨⟨t136, t137⟩, A500, H⟩ := H; replace H : ((laws_markIntS.f kj16 t119 t136).bind fun bt138 => (if bt138.1 < 0 then (laws_FnExactPileOfParking.j1 kj16 l1 a2 t110 t113 t122 true a0_0 l0_1) else ((laws_eqIntS.f kj16 t122 t110).bind fun t140 => (if t140 = true then (laws_FnExactPileOfParking.j1 kj16 l1 a2 t110 t113 t122 (t125 != t113) a0_0 l0_1) else (laws_FnExactPileOfParking.j1 kj16 l1 a2 t110 t113 t122 true a0_0 l0_1))))) = some r := H; have A50 := Aside0.mk A500; clear A500; replace H := Option.bind_eq_some_iff.mp H; obtain ⟨⟨t138, t139⟩, A510, H⟩ := H; replace H : (if t138 < 0 then (laws_FnExactPileOfParking.j1 kj16 l1 a2 t110 t113 t122 true a0_0 l0_1) else ((laws_eqIntS.f kj16 t122 t110).bind fun t140 => (if t140 = true then (laws_FnExactPileOfParking.j1 kj16 l1 a2 t110 t113 t122 (t125 != t113) a0_0 l0_1) else (laws_FnExactPileOfParking.j1 kj16 l1 a2 t110 t113 t122 true a0_0 l0_1)))) = some r := H; have A51 := Aside0.mk A510; clear A510; have HC52 := Aside0.mk H; clear H; (try go_wp2); have n0_ := Aside0.mk (Kd.R_drew HO_8.out); have n1_ := Aside0.mk (Kd.R_drew HO_11.out); have n2_ := Aside0.mk (Kd.R_drew HO_12.out); have n3_ := Aside0.mk (Kd.R_drew HO_119001.out); have n4_ := Aside0.mk (blk_drew BK101.out); have n5_ := Aside0.mk (blk_drew BK118.out); have n6_ := Aside0.mk (below_drew1 HB.out); clear HO_8; clear HO_11; clear HO_12; clear HO_119001; clear BK101; clear BK118; clear HB; have HO_8 := n0_; have HO_11 := n1_; have HO_12 := n2_; have HO_119001 := n3_; have BK101 := n4_; have BK118 := n5_; have HB := n6_; clear n0_ n1_ n2_ n3_ n4_ n5_ n6_; refine start_ (n := 5) (S := fun w' => w'.cell? ⟨gb118, 0, none⟩ = some (.int .i64 t114) ∧ w'.cell? ⟨gb118, 1, none⟩ = some (.slice Ao32 t115.length co32) ∧ w'.cell? ⟨gb101, 0, none⟩ = some (.int .i64 a0_0) ∧ w'.cell? ⟨gb101, 1, none⟩ = some (.slice A0_1 l0_1.length c0_1)) (ds := []) #[false, false, false, false, false] (by kernel_rfl) rfl rfl ⟨(blk_cell BK118.out 0).trans rfl, (blk_cell BK118.out 1).trans rfl, (blk_cell BK101.out 0).trans rfl, (blk_cell BK101.out 1).trans rfl⟩ (fun hHeld => ?_); generalize wc.drew = w53 at HO_8 HO_11 HO_12 HO_119001 BK101 BK118 HB hHeld ⊢; refine take_ (i := 0) (N := some 56) (v := ?_) (a' := ?_) #[true, false, false, false, false] rfl rfl (by kernel_rfl) (fun _ _ _ h => h) (Or.inl ⟨by rfl, ?_⟩) hHeld ?_ ?_; rotate_left
      · rintro w' ⟨s0, s1, s2, s3⟩; exact zzT
      rotate_left
      · exact zzS
      refine take_ (i := 1) (N := some 57) (v := ?_) (a' := ?_) #[true, true, false, false, false] rfl rfl (by kernel_rfl) (fun _ _ _ h => h) (Or.inl ⟨by rfl, ?_⟩) hHeld ?_ ?_; rotate_left
      · rintro w' ⟨s0, s1, s2, s3⟩; exact zzT
      rotate_left
      · exact zzS
      refine one_ (i := 2) (N := some 58) #[true, true, true, false, false] rfl rfl (by kernel_rfl) (by decide) (fun K hK => ?_); refine goes_ Try.func43 (by kernel_rfl) rfl #[.agg #[.int .i64 a0_0, .slice A0_1 l0_1.length c0_1]] (by rfl) rfl rfl zz3 ?_; (with_reducible refine (laws_toGraph.calls kj16 a0_0 _ _ l0_1 t127 t128 _ ?side1 ?side2 A44.out).mono ?_); (case side1 => exact zz5); (case side2 => exact HC0_1.out); rintro e w54 ⟨v129, rfl, ho0, hb⟩; refine ⟨_, rfl, ?_⟩; have n0_ := Aside0.mk (Kd.R_below zz24 hb); have n1_ := Aside0.mk (Kd.R_below (by (with_reducible repeat (first | apply Kd.R_alloc | apply Kd.R_drewN | apply Kd.R_drew)); exact HO_11.out) hb); have n2_ := Aside0.mk (Kd.R_below zz29 hb); have n3_ := Aside0.mk (Kd.R_elder' zz36 (Kd.R_base ho0) hb); have n4_ := Aside0.mk (Kd.R_lower (Kd.R_new' ho0 (Kd.R_lt zz36)) (below_size zz14)); have n5_ := Aside0.mk (blk_below (g := gb101) (o := .cells #[.int .i64 a0_0, .slice A0_1 l0_1.length c0_1] 33 (0, 0)) zz2 hb); have n6_ := Aside0.mk (blk_below (g := gb118) (o := .cells #[.int .i64 t114, .slice Ao32 t115.length co32] 38 (0, 0)) zz23 hb); have n7_ := Aside0.mk (below_step zz14 hb); clear HO_8; clear HO_11; clear HO_12; clear HO_119001; clear BK101; clear BK118; clear HB; have HO_8 := n0_; have HO_11 := n1_; have HO_12 := n2_; have HO_119001 := n3_; have HO130 := n4_; have BK101 := n5_; have BK118 := n6_; have HB := n7_; clear n0_ n1_ n2_ n3_ n4_ n5_ n6_ n7_; (try clear hb); (try clear hb2); (try clear hk); (try clear hi); (try clear ho0); obtain ⟨Ao55, co55, eo55⟩ := Kd.R_slice HO130.out; (first | subst eo55 | (injection eo55 with f1_ f2_ f3_; have f4_ := f1_.symm; have f5_ := f3_.symm; clear f1_ f2_ f3_; subst f4_; subst f5_)); refine hK.out _ _ ⟨(blk_cell BK118.out 0).trans rfl, (blk_cell BK118.out 1).trans rfl, (blk_cell BK101.out 0).trans rfl, (blk_cell BK101.out 1).trans rfl⟩ (fun hHeld => ?_); clear hK K; refine norm_ (a' := ?_) ?_ ?_; rotate_left
      · show Act.put _ (some 58) _ = _; exact zzS
      refine one_ (i := 3) (N := some 59) #[true, true, true, true, false] rfl rfl (by kernel_rfl) (by decide) (fun K hK => ?_); refine goes_ Try.func46 (by kernel_rfl) rfl #[.agg #[.int .i64 t114, .slice Ao32 t115.length co32], .agg #[.int .i64 t127, .slice Ao55 t128.length co55]] (by rfl) rfl rfl zz3 ?_; (with_reducible refine (laws_eqGraph.calls kj16 t114 _ _ t115 t127 _ _ t128 true _ ?side1 ?side2 ?side3 ?side4 A45.out).mono ?_); (case side1 => repeat (first | exact (Kd.R_reads' HO_119001.out).2.2 | (with_reducible refine Kd.C_alloc ?_ _) | (with_reducible refine Kd.C_drewN ?_ _) | (with_reducible refine Kd.C_drew ?_))); (case side2 => exact (Kd.R_reads' HO_119001.out).2.1); (case side3 => repeat (first | exact (Kd.R_reads' HO130.out).2.2 | (with_reducible refine Kd.C_alloc ?_ _) | (with_reducible refine Kd.C_drewN ?_ _) | (with_reducible refine Kd.C_drew ?_))); (case side4 => exact (Kd.R_reads' HO130.out).2.1); rintro e w56 ⟨rfl, hb⟩; refine ⟨_, rfl, ?_⟩; have n0_ := Aside0.mk (Kd.R_below zz24 hb); have n1_ := Aside0.mk (Kd.R_below (by (with_reducible repeat (first | apply Kd.R_alloc | apply Kd.R_drewN | apply Kd.R_drew)); exact HO_11.out) hb); have n2_ := Aside0.mk (Kd.R_below zz29 hb); have n3_ := Aside0.mk (Kd.R_below zz36 hb); have n4_ := Aside0.mk (Kd.R_below (by (with_reducible repeat (first | apply Kd.R_alloc | apply Kd.R_drewN | apply Kd.R_drew)); exact HO130.out) hb); have n5_ := Aside0.mk (blk_below (g := gb101) (o := .cells #[.int .i64 a0_0, .slice A0_1 l0_1.length c0_1] 33 (0, 0)) zz2 hb); have n6_ := Aside0.mk (blk_below (g := gb118) (o := .cells #[.int .i64 t114, .slice Ao32 t115.length co32] 38 (0, 0)) zz23 hb); have n7_ := Aside0.mk (below_step zz14 hb); clear HO_8; clear HO_11; clear HO_12; clear HO_119001; clear HO130; clear BK101; clear BK118; clear HB; have HO_8 := n0_; have HO_11 := n1_; have HO_12 := n2_; have HO_119001 := n3_; have HO130 := n4_; have BK101 := n5_; have BK118 := n6_; have HB := n7_; clear n0_ n1_ n2_ n3_ n4_ n5_ n6_ n7_; (try clear hb); (try clear hb2); (try clear hk); (try clear hi); refine hK.out _ _ ⟨(blk_cell BK118.out 0).trans rfl, (blk_cell BK118.out 1).trans rfl, (blk_cell BK101.out 0).trans rfl, (blk_cell BK101.out 1).trans rfl⟩ (fun hHeld => ?_); clear hK K; refine norm_ (a' := ?_) ?_ ?_; rotate_left
      · show Act.put _ (some 59) _ = _; exact zzS
      refine pure_ (i := 4) (N := some 60) (v := ?_) (a' := ?_) #[true, true, true, true, true] rfl rfl (by kernel_rfl) (fun _ _ _ h => h) (Or.inl ⟨by rfl, ?_⟩) ?_ ?_; rotate_left
      · intro w'; exact zzT
      rotate_left
      · exact zzS
      refine done_ (by kernel_rfl) ?_; (go_upto_region 20 with (first | ((with_reducible refine gate_callee (f := 44) rfl ?_); refine goesL_ (some 63) rfl rfl Try.func44 (by kernel_rfl) rfl #[.slice A1 l1.length c1] rfl zz3 ?_; (with_reducible refine (laws_toIntS.calls kj16 _ _ l1 t132 _ ?side1 ?side2 A47.out).mono ?_); (case side1 => exact zz9); (case side2 => exact HC1.out); rintro e w57 ⟨v133, rfl, ho0, hb⟩; refine ⟨_, rfl, ?_⟩; have n0_ := Aside0.mk (Kd.R_elder' zz24 (Kd.R_base ho0) hb); have n1_ := Aside0.mk (Kd.R_elder' (by (with_reducible repeat (first | apply Kd.R_alloc | apply Kd.R_drewN | apply Kd.R_drew)); exact HO_11.out) (Kd.R_base ho0) hb); have n2_ := Aside0.mk (Kd.R_elder' zz29 (Kd.R_base ho0) hb); have n3_ := Aside0.mk (Kd.R_below zz36 hb); have n4_ := Aside0.mk (Kd.R_below (by (with_reducible repeat (first | apply Kd.R_alloc | apply Kd.R_drewN | apply Kd.R_drew)); exact HO130.out) hb); have n5_ := Aside0.mk (Kd.R_lower (Kd.R_new' (Kd.R_new' (Kd.R_new' ho0 (Kd.R_lt zz24)) (Kd.R_lt (by (with_reducible repeat (first | apply Kd.R_alloc | apply Kd.R_drewN | apply Kd.R_drew)); exact HO_11.out))) (Kd.R_lt zz29)) (below_size zz14)); have n6_ := Aside0.mk (blk_below (g := gb101) (o := .cells #[.int .i64 a0_0, .slice A0_1 l0_1.length c0_1] 33 (0, 0)) zz2 hb); have n7_ := Aside0.mk (blk_below (g := gb118) (o := .cells #[.int .i64 t114, .slice Ao32 t115.length co32] 38 (0, 0)) zz23 hb); have n8_ := Aside0.mk (below_step zz14 hb); clear HO_8; clear HO_11; clear HO_12; clear HO_119001; clear HO130; clear BK101; clear BK118; clear HB; have HO_8 := n0_; have HO_11 := n1_; have HO_12 := n2_; have HO_119001 := n3_; have HO130 := n4_; have HO134 := n5_; have BK101 := n6_; have BK118 := n7_; have HB := n8_; clear n0_ n1_ n2_ n3_ n4_ n5_ n6_ n7_ n8_; (try clear hb); (try clear hb2); (try clear hk); (try clear hi); (try clear ho0); obtain ⟨Ao58, co58, eo58⟩ := Kd.R_slice HO134.out; subst eo58) | ((with_reducible refine gate_callee (f := 36) rfl ?_); refine goesL_ (some 64) rfl rfl Try.func36 (by kernel_rfl) rfl #[.slice Ao35 t119.length co35, .slice Ao58 t132.length co58] rfl zz3 ?_; (with_reducible refine (laws_eqIntS.calls kj16 _ _ t119 _ _ t132 true _ ?side1 ?side2 ?side3 ?side4 A48.out).mono ?_); (case side1 => repeat (first | exact (Kd.R_reads' HO_11.out).2.2 | (with_reducible refine Kd.C_alloc ?_ _) | (with_reducible refine Kd.C_drewN ?_ _) | (with_reducible refine Kd.C_drew ?_))); (case side2 => exact (Kd.R_reads' HO_11.out).2.1); (case side3 => repeat (first | exact (Kd.R_reads' HO134.out).2.2 | (with_reducible refine Kd.C_alloc ?_ _) | (with_reducible refine Kd.C_drewN ?_ _) | (with_reducible refine Kd.C_drew ?_))); (case side4 => exact (Kd.R_reads' HO134.out).2.1); rintro e w' ⟨rfl, ⟨nd, rfl⟩⟩; refine ⟨_, rfl, ?_⟩; have hnb59 := NB118_101.out; have hnc59 := NB101_118.out; have hcz60_0 : w57.cell? ⟨gb118, 0, none⟩ = some (.int .i64 t114) := (blk_cell BK118.out 0).trans rfl; have hcz60_1 : w57.cell? ⟨gb118, 1, none⟩ = some (.slice Ao32 t115.length co32) := (blk_cell BK118.out 1).trans rfl; have hfz60_0 := blk_frozen BK118.out 0; have hfz60_1 := blk_frozen BK118.out 1) | ((with_reducible refine gate_callee (f := 49) rfl ?_); refine goesL_ (some 68) rfl rfl Try.func49 (by kernel_rfl) rfl #[.agg #[.int .i64 t114, .slice Ao32 t115.length co32], .int .i64 1] rfl zz3 ?_; (with_reducible refine (laws_markGraph.calls kj16 t114 (fun k_ => some k_ = (.slice Ao32 t115.length co32 : Value).ownBlock) (.slice Ao32 t115.length co32) t115 1 t136 t137 w _ ?side1 ?side2 A50.out).mono ?_); (case side1 => exact zz14); (case side2 => exact Kd.R_tight rfl HO_119001.out); rintro e w61 ⟨rfl, hy0, hb, hkp⟩; refine ⟨_, rfl, ?_⟩; have n0_ := Aside0.mk (Kd.R_mono (ok' := fun k_ => some k_ ≠ (.slice Ao35 t119.length co35 : Value).ownBlock ∧ some k_ ≠ (v123 : Value).ownBlock ∧ some k_ ≠ (.slice Ao58 t132.length co58 : Value).ownBlock) (Kd.R_keptB ((Kd.R_apart' HO_8.out (Kd.R_typed HO_119001.out) (by decide))) hkp (fun k_ hk_ hs_ => (hk_.2) hs_)) (fun k_ hk_ => ⟨hk_.1.1.1.1, hk_.1.1.1.2, hk_.1.1.2⟩)); have n1_ := Aside0.mk (Kd.R_mono (ok' := fun k_ => some k_ ≠ (v111 : Value).ownBlock ∧ some k_ ≠ (v123 : Value).ownBlock ∧ some k_ ≠ (.slice Ao58 t132.length co58 : Value).ownBlock) (Kd.R_keptB ((Kd.R_apart' HO_11.out (Kd.R_typed HO_119001.out) (by decide))) hkp (fun k_ hk_ hs_ => (hk_.2) hs_)) (fun k_ hk_ => ⟨hk_.1.1.1.1, hk_.1.1.1.2, hk_.1.1.2⟩)); have n2_ := Aside0.mk (Kd.R_mono (ok' := fun k_ => some k_ ≠ (v111 : Value).ownBlock ∧ some k_ ≠ (.slice Ao35 t119.length co35 : Value).ownBlock ∧ some k_ ≠ (.slice Ao58 t132.length co58 : Value).ownBlock) (Kd.R_keptB ((Kd.R_apart' HO_12.out (Kd.R_typed HO_119001.out) (by decide))) hkp (fun k_ hk_ hs_ => (hk_.2) hs_)) (fun k_ hk_ => ⟨hk_.1.1.1.1, hk_.1.1.1.2, hk_.1.1.2⟩)); have n3_ := Aside0.mk (Kd.R_reok rfl hy0 (fun k_ e_ => HO_119001.out.1 k_ e_)); have n4_ := Aside0.mk (blk_kept zz2 hkp (fun hs_ => (fun e_ => (Kd.R_ne HO_119001.out BK101.out (by decide)) e_) hs_)); have n5_ := Aside0.mk (blk_kept zz23 hkp (fun hs_ => (fun e_ => (Kd.R_ne HO_119001.out BK118.out (by decide)) e_) hs_)); have n6_ := Aside0.mk (Kd.R_mono (ok' := fun k_ => some k_ ≠ (.slice Ao32 t115.length co32 : Value).ownBlock) (Kd.R_keptB (HO130.out) hkp (fun k_ hk_ hs_ => (hk_.2) hs_)) (fun k_ hk_ => hk_.1.2)); have n7_ := Aside0.mk (Kd.R_mono (ok' := fun k_ => some k_ ≠ (v111 : Value).ownBlock ∧ some k_ ≠ (.slice Ao35 t119.length co35 : Value).ownBlock ∧ some k_ ≠ (v123 : Value).ownBlock) (Kd.R_keptB ((Kd.R_apart' HO134.out (Kd.R_typed HO_119001.out) (by decide))) hkp (fun k_ hk_ hs_ => (hk_.2) hs_)) (fun k_ hk_ => ⟨hk_.1.1.1.1.2, hk_.1.1.1.2, hk_.1.1.2⟩)); have n8_ := Aside0.mk (hb); clear HO_8; clear HO_11; clear HO_12; clear HO_119001; clear BK101; clear BK118; clear HO130; clear HO134; clear HB; have HO_8 := n0_; have HO_11 := n1_; have HO_12 := n2_; have HO_119001 := n3_; have BK101 := n4_; have BK118 := n5_; have HO130 := n6_; have HO134 := n7_; have HB := n8_; clear n0_ n1_ n2_ n3_ n4_ n5_ n6_ n7_ n8_; (try clear hb); (try clear hkp); (try clear hy0)) | ((with_reducible refine gate_callee (f := 39) rfl ?_); refine goesL_ (some 71) rfl rfl Try.func39 (by kernel_rfl) rfl #[.slice Ao35 t119.length co35, .int .i64 t136] rfl zz3 ?_; (with_reducible refine (laws_markIntS.calls kj16 (fun k_ => some k_ = (.slice Ao35 t119.length co35 : Value).ownBlock) (.slice Ao35 t119.length co35) t119 t136 t138 t139 w _ ?side1 ?side2 A51.out).mono ?_); (case side1 => exact zz14); (case side2 => exact Kd.R_tight rfl HO_11.out); rintro e w62 ⟨rfl, hy0, hb, hkp⟩; refine ⟨_, rfl, ?_⟩; have n0_ := Aside0.mk (Kd.R_mono (ok' := fun k_ => some k_ ≠ (.slice Ao35 t119.length co35 : Value).ownBlock ∧ some k_ ≠ (v123 : Value).ownBlock ∧ some k_ ≠ (.slice Ao58 t132.length co58 : Value).ownBlock) (Kd.R_keptB (HO_8.out) hkp (fun k_ hk_ hs_ => (hk_.1) hs_)) (fun k_ hk_ => ⟨hk_.1.1, hk_.1.2.1, hk_.1.2.2⟩)); have n1_ := Aside0.mk (Kd.R_reok rfl hy0 (fun k_ e_ => HO_11.out.1 k_ e_)); have n2_ := Aside0.mk (Kd.R_mono (ok' := fun k_ => some k_ ≠ (v111 : Value).ownBlock ∧ some k_ ≠ (.slice Ao35 t119.length co35 : Value).ownBlock ∧ some k_ ≠ (.slice Ao58 t132.length co58 : Value).ownBlock) (Kd.R_keptB (HO_12.out) hkp (fun k_ hk_ hs_ => (hk_.2.1) hs_)) (fun k_ hk_ => ⟨hk_.1.1, hk_.1.2.1, hk_.1.2.2⟩)); have n3_ := Aside0.mk (Kd.R_mono (ok' := fun k_ => some k_ ≠ (.slice Ao55 t128.length co55 : Value).ownBlock) (Kd.R_keptB ((Kd.R_apart' HO_119001.out (Kd.R_typed HO_11.out) (by decide))) hkp (fun k_ hk_ hs_ => (hk_.2) hs_)) (fun k_ hk_ => hk_.1.1.2)); have n4_ := Aside0.mk (blk_kept zz2 hkp (fun hs_ => (fun e_ => (Kd.R_ne HO_11.out BK101.out (by decide)) e_) hs_)); have n5_ := Aside0.mk (blk_kept zz23 hkp (fun hs_ => (fun e_ => (Kd.R_ne HO_11.out BK118.out (by decide)) e_) hs_)); have n6_ := Aside0.mk (Kd.R_mono (ok' := fun k_ => some k_ ≠ (.slice Ao32 t115.length co32 : Value).ownBlock) (Kd.R_keptB ((Kd.R_apart' HO130.out (Kd.R_typed HO_11.out) (by decide))) hkp (fun k_ hk_ hs_ => (hk_.2) hs_)) (fun k_ hk_ => hk_.1.1)); have n7_ := Aside0.mk (Kd.R_mono (ok' := fun k_ => some k_ ≠ (v111 : Value).ownBlock ∧ some k_ ≠ (.slice Ao35 t119.length co35 : Value).ownBlock ∧ some k_ ≠ (v123 : Value).ownBlock) (Kd.R_keptB (HO134.out) hkp (fun k_ hk_ hs_ => (hk_.2.1) hs_)) (fun k_ hk_ => ⟨hk_.1.1, hk_.1.2.1, hk_.1.2.2⟩)); have n8_ := Aside0.mk (hb); clear HO_8; clear HO_11; clear HO_12; clear HO_119001; clear BK101; clear BK118; clear HO130; clear HO134; clear HB; have HO_8 := n0_; have HO_11 := n1_; have HO_12 := n2_; have HO_119001 := n3_; have BK101 := n4_; have BK118 := n5_; have HO130 := n6_; have HO134 := n7_; have HB := n8_; clear n0_ n1_ n2_ n3_ n4_ n5_ n6_ n7_ n8_; (try clear hb); (try clear hkp); (try clear hy0)))); (try simp only [Act.put, List.setIfInBounds_toArray, List.set_cons_zero, List.set_cons_succ]); go_cut [84] (fun v84 wc => ∃ (kq : Nat) (x84_51 : Bool), v84 = .bool x84_51 ∧ Aside0 (laws_FnExactPileOfParking.j1 kq l1 a2 t110 t113 t122 x84_51 a0_0 l0_1 = some r) ∧ Aside0 (kq ≤ kj16) ∧ Aside0 (Kd.R (Kd.int .i64) 3 wc w.heap.size (fun k_ => some k_ ≠ (v123 : Value).ownBlock) v111 t110) ∧ Aside0 (Kd.R (Kd.int .i64) 3 wc w.heap.size (fun k_ => some k_ ≠ (v111 : Value).ownBlock) v123 t122) ∧ Aside0 (Kd.R k70 70 wc w.heap.size (fun _ => True) (.slice Ao32 t115.length co32) t137) ∧ Aside0 (wc.heap[gb101]? = some (.cells #[.int .i64 a0_0, (.slice A0_1 l0_1.length c0_1)] 33 (0, 0))) ∧ Aside0 (wc.heap[gb118]? = some (.cells #[.int .i64 t114, (.slice Ao32 t115.length co32)] 38 (0, 0))) ∧ Aside0 (Below w.heap.size w wc))
      case first =>
        have H := HC52.out; clear HC52; by_cases c63 : t138 < 0
        · rw [if_pos c63] at H; have c63b0 : decide (t138 < 0) = true := decide_eq_true c63; clear c63; (first | rw [c63b0] | (simp only [i64_w, i32_w]; rw [c63b0]) | skip); have H' := Aside0.mk H; clear H; go_wp2; (go_meet); case rel => exact ⟨_, (true), zz7, H', ⟨by have := HJ16.out; first | omega | exact Nat.le_refl _⟩, ⟨by (with_reducible repeat (first | apply Kd.R_alloc | apply Kd.R_drewN | apply Kd.R_drew)); exact Kd.R_mono HO_8.out (fun _ hk => hk.2.1)⟩, ⟨by (with_reducible repeat (first | apply Kd.R_alloc | apply Kd.R_drewN | apply Kd.R_drew)); exact Kd.R_mono HO_12.out (fun _ hk => hk.1)⟩, ⟨by (with_reducible repeat (first | apply Kd.R_alloc | apply Kd.R_drewN | apply Kd.R_drew)); exact Kd.R_mono HO_119001.out (fun _ hk => trivial)⟩, ⟨zz2⟩, ⟨zz23⟩, ⟨zz14⟩⟩
        rw [if_neg c63] at H; have c63b0 : decide (t138 < 0) = false := decide_eq_false c63; clear c63; (first | rw [c63b0] | (simp only [i64_w, i32_w]; rw [c63b0]) | skip); replace H := Option.bind_eq_some_iff.mp H; obtain ⟨t140, A640, H⟩ := H; replace H : (if t140 = true then (laws_FnExactPileOfParking.j1 kj16 l1 a2 t110 t113 t122 (t125 != t113) a0_0 l0_1) else (laws_FnExactPileOfParking.j1 kj16 l1 a2 t110 t113 t122 true a0_0 l0_1)) = some r := H; have A64 := Aside0.mk A640; clear A640; by_cases c65 : t140 = true
        · subst c65; (have H1 : (laws_FnExactPileOfParking.j1 kj16 l1 a2 t110 t113 t122 (t125 != t113) a0_0 l0_1) = some r := by rw [if_pos rfl] at H; exact H); clear H; have H := H1; clear H1; have H' := Aside0.mk H; clear H; obtain ⟨Ao66, co66, eo66⟩ := Kd.R_slice HO_12.out; subst eo66; obtain ⟨Ao67, co67, eo67⟩ := Kd.R_slice HO_8.out; subst eo67; (go_wp2_with (first | (go_at_call 36; (with_reducible refine (laws_eqIntS.calls kj16 _ _ t122 _ _ t110 true _ ?side1 ?side2 ?side3 ?side4 A64.out).mono ?_); (case side1 => exact zz43); (case side2 => exact (Kd.R_reads' HO_12.out).2.1); (case side3 => exact zz44); (case side4 => exact (Kd.R_reads' HO_8.out).2.1); rintro e w' ⟨rfl, ⟨nd, rfl⟩⟩))); (go_meet); case rel => exact ⟨_, ((t125 != t113)), zz7, H', ⟨by have := HJ16.out; first | omega | exact Nat.le_refl _⟩, ⟨by (with_reducible repeat (first | apply Kd.R_alloc | apply Kd.R_drewN | apply Kd.R_drew)); exact Kd.R_mono HO_8.out (fun _ hk => hk.2.1)⟩, ⟨by (with_reducible repeat (first | apply Kd.R_alloc | apply Kd.R_drewN | apply Kd.R_drew)); exact Kd.R_mono HO_12.out (fun _ hk => hk.1)⟩, ⟨by (with_reducible repeat (first | apply Kd.R_alloc | apply Kd.R_drewN | apply Kd.R_drew)); exact Kd.R_mono HO_119001.out (fun _ hk => trivial)⟩, ⟨zz2⟩, ⟨zz23⟩, ⟨zz14⟩⟩
        replace c65 := Bool.eq_false_iff.mpr c65; subst c65; (have H1 : (laws_FnExactPileOfParking.j1 kj16 l1 a2 t110 t113 t122 true a0_0 l0_1) = some r := by rw [if_neg (show ¬ (false = true) by decide)] at H; exact H); clear H; have H := H1; clear H1; have H' := Aside0.mk H; clear H; obtain ⟨Ao68, co68, eo68⟩ := Kd.R_slice HO_12.out; subst eo68; obtain ⟨Ao69, co69, eo69⟩ := Kd.R_slice HO_8.out; subst eo69; (go_wp2_with (first | (go_at_call 36; (with_reducible refine (laws_eqIntS.calls kj16 _ _ t122 _ _ t110 false _ ?side1 ?side2 ?side3 ?side4 A64.out).mono ?_); (case side1 => exact zz43); (case side2 => exact (Kd.R_reads' HO_12.out).2.1); (case side3 => exact zz44); (case side4 => exact (Kd.R_reads' HO_8.out).2.1); rintro e w' ⟨rfl, ⟨nd, rfl⟩⟩))); (go_meet); case rel => exact ⟨_, (true), zz7, H', ⟨by have := HJ16.out; first | omega | exact Nat.le_refl _⟩, ⟨by (with_reducible repeat (first | apply Kd.R_alloc | apply Kd.R_drewN | apply Kd.R_drew)); exact Kd.R_mono HO_8.out (fun _ hk => hk.2.1)⟩, ⟨by (with_reducible repeat (first | apply Kd.R_alloc | apply Kd.R_drewN | apply Kd.R_drew)); exact Kd.R_mono HO_12.out (fun _ hk => hk.1)⟩, ⟨by (with_reducible repeat (first | apply Kd.R_alloc | apply Kd.R_drewN | apply Kd.R_drew)); exact Kd.R_mono HO_119001.out (fun _ hk => trivial)⟩, ⟨zz2⟩, ⟨zz23⟩, ⟨zz14⟩⟩
      case rest =>
        clear HC52; (try clear c1); (try clear c2); (try clear p2); (try clear c3); (try clear c4); (try clear c4b0); (try clear c4b1); (try clear c5); (try clear c6); (try clear c7); (try clear c7b0); (try clear c8); (try clear c23); (try clear c30); (try clear c36); (try clear c38); (try clear c39); (try clear c41); (try clear c43); (try clear c44); (try clear c46); (try clear c49); (try clear c59); (try clear c63); (try clear c63b0); (try clear c65); (try clear hcz19_0); (try clear hcz19_1); (try clear hcz21_0); (try clear hcz21_1); (try clear hcz27_0); (try clear hcz27_1); (try clear hcz31_0); (try clear hcz31_1); (try clear hcz34_0); (try clear hcz34_1); (try clear hcz60_0); (try clear hcz60_1); (try clear hcz9_0); (try clear hcz9_1); (try clear hfz19_0); (try clear hfz19_1); (try clear hfz21_0); (try clear hfz21_1); (try clear hfz27_0); (try clear hfz27_1); (try clear hfz31_0); (try clear hfz31_1); (try clear hfz34_0); (try clear hfz34_1); (try clear hfz60_0); (try clear hfz60_1); (try clear hfz9_0); (try clear hfz9_1); (try clear p2); obtain ⟨kq, x84_51, rfl, HA, HJ51, HO_8, HO_12, HO_119001, BK101, BK118, HB⟩ := hcut; have hl119001_51 := (Kd.R_reads' HO_119001.out).1; rw [hl119001_51] at HO_119001; (try simp only [hl119001_51]); (try simp only [hl119001_51] at BK101); (try simp only [hl119001_51] at BK118); (try simp only [hl119001_51] at HO_8); (try simp only [hl119001_51] at HO_12)
        cases kq with
        | zero => exact absurd HA.out (by simp [laws_FnExactPileOfParking.j1])
        | succ kj51 =>
          have H := HA.out; clear HA; simp only [laws_FnExactPileOfParking.j1] at H; by_cases c70 : x84_51 = true
          · subst c70; (have H1 : (none) = some r := by rw [if_pos rfl] at H; exact H); clear H; have H := H1; clear H1; exact absurd H (by simp)
          replace c70 := Bool.eq_false_iff.mpr c70; subst c70; (have H1 : ((laws_markIntS.f kj51 t122 1).bind fun bt141 => ((laws_heldIntS.f kj51 bt141.2 1).bind fun t143 => (if t143 < 0 then (none) else (if t143 = bt141.1 then ((laws_toGraph.f kj51 a0_0 l0_1).bind fun bt144 => ((laws_toIntS.f kj51 l1).bind fun t148 => ((impl_PileOfParking.f kj51 bt144.1 bt144.2 t148 a2).bind fun bt151 => ((laws_eqIntS.f kj51 bt151.1 t110).bind fun t155 => (if t155 = true then (laws_FnExactPileOfParking.j2 kj51 bt141.2 bt141.1 (bt151.2 != t113)) else (laws_FnExactPileOfParking.j2 kj51 bt141.2 bt141.1 true)))))) else (none))))) = some r := by rw [if_neg (show ¬ (false = true) by decide)] at H; exact H); clear H; have H := H1; clear H1; replace H := Option.bind_eq_some_iff.mp H; obtain ⟨⟨t141, t142⟩, A710, H⟩ := H; replace H : ((laws_heldIntS.f kj51 t142 1).bind fun t143 => (if t143 < 0 then (none) else (if t143 = t141 then ((laws_toGraph.f kj51 a0_0 l0_1).bind fun bt144 => ((laws_toIntS.f kj51 l1).bind fun t148 => ((impl_PileOfParking.f kj51 bt144.1 bt144.2 t148 a2).bind fun bt151 => ((laws_eqIntS.f kj51 bt151.1 t110).bind fun t155 => (if t155 = true then (laws_FnExactPileOfParking.j2 kj51 t142 t141 (bt151.2 != t113)) else (laws_FnExactPileOfParking.j2 kj51 t142 t141 true)))))) else (none)))) = some r := H; have A71 := Aside0.mk A710; clear A710; replace H := Option.bind_eq_some_iff.mp H; obtain ⟨t143, A720, H⟩ := H; replace H : (if t143 < 0 then (none) else (if t143 = t141 then ((laws_toGraph.f kj51 a0_0 l0_1).bind fun bt144 => ((laws_toIntS.f kj51 l1).bind fun t148 => ((impl_PileOfParking.f kj51 bt144.1 bt144.2 t148 a2).bind fun bt151 => ((laws_eqIntS.f kj51 bt151.1 t110).bind fun t155 => (if t155 = true then (laws_FnExactPileOfParking.j2 kj51 t142 t141 (bt151.2 != t113)) else (laws_FnExactPileOfParking.j2 kj51 t142 t141 true)))))) else (none))) = some r := H; have A72 := Aside0.mk A720; clear A720; by_cases c73 : t143 < 0
          · rw [if_pos c73] at H; exact absurd H (by simp)
          rw [if_neg c73] at H; have c73b0 : decide (t143 < 0) = false := decide_eq_false c73; clear c73; by_cases c74 : t143 = t141; rotate_left
          · rw [if_neg c74] at H; exact absurd H (by simp)
          rw [if_pos c74] at H; have c74b0 : (t143 == t141) = true := beq_iff_eq.mpr c74; have c74b1 : (t143 != t141) = false := bne_eq_false_iff_eq.mpr c74; clear c74; replace H := Option.bind_eq_some_iff.mp H; obtain ⟨⟨t144, t145⟩, A750, H⟩ := H; replace H : ((laws_toIntS.f kj51 l1).bind fun t148 => ((impl_PileOfParking.f kj51 t144 t145 t148 a2).bind fun bt151 => ((laws_eqIntS.f kj51 bt151.1 t110).bind fun t155 => (if t155 = true then (laws_FnExactPileOfParking.j2 kj51 t142 t141 (bt151.2 != t113)) else (laws_FnExactPileOfParking.j2 kj51 t142 t141 true))))) = some r := H; have A75 := Aside0.mk A750; clear A750; replace H := Option.bind_eq_some_iff.mp H; obtain ⟨t148, A760, H⟩ := H; replace H : ((impl_PileOfParking.f kj51 t144 t145 t148 a2).bind fun bt151 => ((laws_eqIntS.f kj51 bt151.1 t110).bind fun t155 => (if t155 = true then (laws_FnExactPileOfParking.j2 kj51 t142 t141 (bt151.2 != t113)) else (laws_FnExactPileOfParking.j2 kj51 t142 t141 true)))) = some r := H; have A76 := Aside0.mk A760; clear A760; replace H := Option.bind_eq_some_iff.mp H; obtain ⟨⟨t151, t154⟩, A770, H⟩ := H; replace H : ((laws_eqIntS.f kj51 t151 t110).bind fun t155 => (if t155 = true then (laws_FnExactPileOfParking.j2 kj51 t142 t141 (t154 != t113)) else (laws_FnExactPileOfParking.j2 kj51 t142 t141 true))) = some r := H; have A77 := Aside0.mk A770; clear A770; have HC78 := Aside0.mk H; clear H; obtain ⟨Ao79, co79, eo79⟩ := Kd.R_slice HO_12.out; subst eo79; (go_upto_region 31 with (first | ((with_reducible refine gate_callee (f := 39) rfl ?_); refine goesL_ (some 87) rfl rfl Try.func39 (by kernel_rfl) rfl #[.slice Ao79 t122.length co79, .int .i64 1] rfl zz3 ?_; (with_reducible refine (laws_markIntS.calls kj51 (fun k_ => some k_ = (.slice Ao79 t122.length co79 : Value).ownBlock) (.slice Ao79 t122.length co79) t122 1 t141 t142 w _ ?side1 ?side2 A71.out).mono ?_); (case side1 => exact zz14); (case side2 => exact Kd.R_tight rfl HO_12.out); rintro e w80 ⟨rfl, hy0, hb, hkp⟩; refine ⟨_, rfl, ?_⟩; have n0_ := Aside0.mk (Kd.R_mono (ok' := fun k_ => some k_ ≠ (.slice Ao79 t122.length co79 : Value).ownBlock) (Kd.R_keptB (HO_8.out) hkp (fun k_ hk_ hs_ => (hk_) hs_)) (fun k_ hk_ => hk_.1)); have n1_ := Aside0.mk (Kd.R_reok rfl hy0 (fun k_ e_ => HO_12.out.1 k_ e_)); have n2_ := Aside0.mk (Kd.R_mono (ok' := fun k_ => True) (Kd.R_keptB ((Kd.R_apart' HO_119001.out (Kd.R_typed HO_12.out) (by decide))) hkp (fun k_ hk_ hs_ => (hk_.2) hs_)) (fun k_ hk_ => trivial)); have n3_ := Aside0.mk (blk_kept zz2 hkp (fun hs_ => (fun e_ => (Kd.R_ne HO_12.out BK101.out (by decide)) e_) hs_)); have n4_ := Aside0.mk (blk_kept zz23 hkp (fun hs_ => (fun e_ => (Kd.R_ne HO_12.out BK118.out (by decide)) e_) hs_)); have n5_ := Aside0.mk (hb); clear HO_8; clear HO_12; clear HO_119001; clear BK101; clear BK118; clear HB; have HO_8 := n0_; have HO_12 := n1_; have HO_119001 := n2_; have BK101 := n3_; have BK118 := n4_; have HB := n5_; clear n0_ n1_ n2_ n3_ n4_ n5_; (try clear hb); (try clear hkp); (try clear hy0)) | ((with_reducible refine gate_callee (f := 40) rfl ?_); refine goesL_ (some 90) rfl rfl Try.func40 (by kernel_rfl) rfl #[.slice Ao79 t142.length co79, .int .i64 1] rfl (by (try simp only [List.map_toArray, List.map_cons, List.map_nil]); first | done | (rw [show t142.length = t122.length from (Kd.R_reads' HO_12.out).1.symm] <;> rfl) | rfl | (simp only [List.length_drop, List.length_take]; rfl)) ?_; (with_reducible refine (laws_heldIntS.calls kj51 _ _ t142 1 t143 _ ?side1 ?side2 A72.out).mono ?_); (case side1 => exact zz43); (case side2 => rw [show t142.length = t122.length from (Kd.R_reads' HO_12.out).1.symm]; exact (Kd.R_reads' HO_12.out).2.1); rintro e w' ⟨rfl, ⟨nd, rfl⟩⟩; refine ⟨_, rfl, ?_⟩; have hnb81 := NB101_118.out; have hnc81 := NB118_101.out; have hcz82_0 : w80.cell? ⟨gb101, 0, none⟩ = some (.int .i64 a0_0) := (blk_cell BK101.out 0).trans rfl; have hcz82_1 : w80.cell? ⟨gb101, 1, none⟩ = some (.slice A0_1 l0_1.length c0_1) := (blk_cell BK101.out 1).trans rfl; have hfz82_0 := blk_frozen BK101.out 0; have hfz82_1 := blk_frozen BK101.out 1) | ((with_reducible refine gate_callee (f := 43) rfl ?_); refine goesL_ (some 98) rfl rfl Try.func43 (by kernel_rfl) rfl #[.agg #[.int .i64 a0_0, .slice A0_1 l0_1.length c0_1]] rfl zz3 ?_; (with_reducible refine (laws_toGraph.calls kj51 a0_0 _ _ l0_1 t144 t145 _ ?side1 ?side2 A75.out).mono ?_); (case side1 => repeat (first | exact (Kd.C_below HR0_1.out zz14) | (with_reducible refine Kd.C_alloc ?_ _) | (with_reducible refine Kd.C_drewN ?_ _) | (with_reducible refine Kd.C_drew ?_))); (case side2 => exact HC0_1.out); rintro e w83 ⟨v146, rfl, ho0, hb⟩; refine ⟨_, rfl, ?_⟩; have n0_ := Aside0.mk (Kd.R_below zz24 hb); have n1_ := Aside0.mk (Kd.R_below zz29 hb); have n2_ := Aside0.mk (Kd.R_elder' zz36 (Kd.R_base ho0) hb); have n3_ := Aside0.mk (Kd.R_lower (Kd.R_new' ho0 (Kd.R_lt zz36)) (below_size zz14)); have n4_ := Aside0.mk (blk_below (g := gb101) (o := .cells #[.int .i64 a0_0, .slice A0_1 l0_1.length c0_1] 33 (0, 0)) zz2 hb); have n5_ := Aside0.mk (blk_below (g := gb118) (o := .cells #[.int .i64 t114, .slice Ao32 t137.length co32] 38 (0, 0)) zz23 hb); have n6_ := Aside0.mk (below_step zz14 hb); clear HO_8; clear HO_12; clear HO_119001; clear BK101; clear BK118; clear HB; have HO_8 := n0_; have HO_12 := n1_; have HO_119001 := n2_; have HO147 := n3_; have BK101 := n4_; have BK118 := n5_; have HB := n6_; clear n0_ n1_ n2_ n3_ n4_ n5_ n6_; (try clear hb); (try clear hb2); (try clear hk); (try clear hi); (try clear ho0)) | ((with_reducible refine gate_callee (f := 44) rfl ?_); refine goesL_ (some 100) rfl rfl Try.func44 (by kernel_rfl) rfl #[.slice A1 l1.length c1] rfl zz3 ?_; (with_reducible refine (laws_toIntS.calls kj51 _ _ l1 t148 _ ?side1 ?side2 A76.out).mono ?_); (case side1 => exact zz9); (case side2 => exact HC1.out); rintro e w84 ⟨v149, rfl, ho0, hb⟩; refine ⟨_, rfl, ?_⟩; have n0_ := Aside0.mk (Kd.R_elder' zz24 (Kd.R_base ho0) hb); have n1_ := Aside0.mk (Kd.R_elder' zz29 (Kd.R_base ho0) hb); have n2_ := Aside0.mk (Kd.R_below zz36 hb); have n3_ := Aside0.mk (Kd.R_below (by (with_reducible repeat (first | apply Kd.R_alloc | apply Kd.R_drewN | apply Kd.R_drew)); exact HO147.out) hb); have n4_ := Aside0.mk (Kd.R_lower (Kd.R_new' (Kd.R_new' ho0 (Kd.R_lt zz24)) (Kd.R_lt zz29)) (below_size zz14)); have n5_ := Aside0.mk (blk_below (g := gb101) (o := .cells #[.int .i64 a0_0, .slice A0_1 l0_1.length c0_1] 33 (0, 0)) zz2 hb); have n6_ := Aside0.mk (blk_below (g := gb118) (o := .cells #[.int .i64 t114, .slice Ao32 t137.length co32] 38 (0, 0)) zz23 hb); have n7_ := Aside0.mk (below_step zz14 hb); clear HO_8; clear HO_12; clear HO_119001; clear HO147; clear BK101; clear BK118; clear HB; have HO_8 := n0_; have HO_12 := n1_; have HO_119001 := n2_; have HO147 := n3_; have HO150 := n4_; have BK101 := n5_; have BK118 := n6_; have HB := n7_; clear n0_ n1_ n2_ n3_ n4_ n5_ n6_ n7_; (try clear hb); (try clear hb2); (try clear hk); (try clear hi); (try clear ho0); obtain ⟨Ao85, co85, eo85⟩ := Kd.R_slice HO147.out; subst eo85; obtain ⟨Ao86, co86, eo86⟩ := Kd.R_slice HO150.out; subst eo86) | ((with_reducible refine gate_callee (f := 85) rfl ?_); refine goesL_ (some 102) rfl rfl Try.func85 (by kernel_rfl) rfl #[.agg #[.int .i64 t144, .slice Ao85 t145.length co85], .slice Ao86 t148.length co86, .int .i64 a2] rfl zz3 ?_; (with_reducible refine (impl_PileOfParking.calls kj51 t144 _ _ t145 _ _ t148 a2 t151 t154 _ ?side1 ?side2 ?side3 ?side4 A77.out).mono ?_); (case side1 => repeat (first | exact (Kd.R_reads' HO147.out).2.2 | (with_reducible refine Kd.C_alloc ?_ _) | (with_reducible refine Kd.C_drewN ?_ _) | (with_reducible refine Kd.C_drew ?_))); (case side2 => exact (Kd.R_reads' HO147.out).2.1); (case side3 => repeat (first | exact (Kd.R_reads' HO150.out).2.2 | (with_reducible refine Kd.C_alloc ?_ _) | (with_reducible refine Kd.C_drewN ?_ _) | (with_reducible refine Kd.C_drew ?_))); (case side4 => exact (Kd.R_reads' HO150.out).2.1); rintro e w87 ⟨v152, rfl, ho0, hb⟩; refine ⟨_, rfl, ?_⟩; have n0_ := Aside0.mk (Kd.R_elder' zz24 (Kd.R_base ho0) hb); have n1_ := Aside0.mk (Kd.R_elder' zz29 (Kd.R_base ho0) hb); have n2_ := Aside0.mk (Kd.R_below zz36 hb); have n3_ := Aside0.mk (Kd.R_below (by (with_reducible repeat (first | apply Kd.R_alloc | apply Kd.R_drewN | apply Kd.R_drew)); exact HO147.out) hb); have n4_ := Aside0.mk (Kd.R_elder' (by (with_reducible repeat (first | apply Kd.R_alloc | apply Kd.R_drewN | apply Kd.R_drew)); exact HO150.out) (Kd.R_base ho0) hb); have n5_ := Aside0.mk (Kd.R_lower (Kd.R_new' (Kd.R_new' (Kd.R_new' ho0 (Kd.R_lt zz24)) (Kd.R_lt zz29)) (Kd.R_lt (by (with_reducible repeat (first | apply Kd.R_alloc | apply Kd.R_drewN | apply Kd.R_drew)); exact HO150.out))) (below_size zz14)); have n6_ := Aside0.mk (blk_below (g := gb101) (o := .cells #[.int .i64 a0_0, .slice A0_1 l0_1.length c0_1] 33 (0, 0)) zz2 hb); have n7_ := Aside0.mk (blk_below (g := gb118) (o := .cells #[.int .i64 t114, .slice Ao32 t137.length co32] 38 (0, 0)) zz23 hb); have n8_ := Aside0.mk (below_step zz14 hb); clear HO_8; clear HO_12; clear HO_119001; clear HO147; clear HO150; clear BK101; clear BK118; clear HB; have HO_8 := n0_; have HO_12 := n1_; have HO_119001 := n2_; have HO147 := n3_; have HO150 := n4_; have HO153 := n5_; have BK101 := n6_; have BK118 := n7_; have HB := n8_; clear n0_ n1_ n2_ n3_ n4_ n5_ n6_ n7_ n8_; (try clear hb); (try clear hb2); (try clear hk); (try clear hi); (try clear ho0)))); (try simp only [Act.put, List.setIfInBounds_toArray, List.set_cons_zero, List.set_cons_succ]); go_cut [113] (fun v113 wc => ∃ (kq : Nat) (x113_77 : Bool), v113 = .bool x113_77 ∧ Aside0 (laws_FnExactPileOfParking.j2 kq t142 t141 x113_77 = some r) ∧ Aside0 (kq ≤ kj51) ∧ Aside0 (Kd.R (Kd.int .i64) 3 wc w.heap.size (fun _ => True) (.slice Ao79 t122.length co79) t142) ∧ Aside0 (Kd.R k70 70 wc w.heap.size (fun _ => True) (.slice Ao32 t137.length co32) t137) ∧ Aside0 (wc.heap[gb101]? = some (.cells #[.int .i64 a0_0, (.slice A0_1 l0_1.length c0_1)] 33 (0, 0))) ∧ Aside0 (wc.heap[gb118]? = some (.cells #[.int .i64 t114, (.slice Ao32 t137.length co32)] 38 (0, 0))) ∧ Aside0 (Below w.heap.size w wc))
          case first =>
            have H := HC78.out; clear HC78; replace H := Option.bind_eq_some_iff.mp H; obtain ⟨t155, A880, H⟩ := H; replace H : (if t155 = true then (laws_FnExactPileOfParking.j2 kj51 t142 t141 (t154 != t113)) else (laws_FnExactPileOfParking.j2 kj51 t142 t141 true)) = some r := H; have A88 := Aside0.mk A880; clear A880; by_cases c89 : t155 = true
            · subst c89; (have H1 : (laws_FnExactPileOfParking.j2 kj51 t142 t141 (t154 != t113)) = some r := by rw [if_pos rfl] at H; exact H); clear H; have H := H1; clear H1; have H' := Aside0.mk H; clear H; obtain ⟨Ao90, co90, eo90⟩ := Kd.R_slice HO153.out; subst eo90; obtain ⟨Ao91, co91, eo91⟩ := Kd.R_slice HO_8.out; subst eo91; (go_wp2_with (first | ((with_reducible refine gate_callee (f := 36) rfl ?_); refine goesL_ (some 107) rfl rfl Try.func36 (by kernel_rfl) rfl #[.slice Ao90 t151.length co90, .slice Ao91 t110.length co91] rfl zz3 ?_; (with_reducible refine (laws_eqIntS.calls kj51 _ _ t151 _ _ t110 true _ ?side1 ?side2 ?side3 ?side4 A88.out).mono ?_); (case side1 => repeat (first | exact (Kd.R_reads' HO153.out).2.2 | (with_reducible refine Kd.C_alloc ?_ _) | (with_reducible refine Kd.C_drewN ?_ _) | (with_reducible refine Kd.C_drew ?_))); (case side2 => exact (Kd.R_reads' HO153.out).2.1); (case side3 => exact zz44); (case side4 => exact (Kd.R_reads' HO_8.out).2.1); rintro e w' ⟨rfl, ⟨nd, rfl⟩⟩; refine ⟨_, rfl, ?_⟩))); (go_meet); case rel => exact ⟨_, ((t154 != t113)), zz7, H', ⟨by have := HJ16.out; have := HJ51.out; first | omega | exact Nat.le_refl _⟩, ⟨by (try simp only [hl119001_51]); (with_reducible repeat (first | apply Kd.R_alloc | apply Kd.R_drewN | apply Kd.R_drew)); exact Kd.R_mono HO_12.out (fun _ hk => trivial)⟩, ⟨by (try simp only [hl119001_51]); (with_reducible repeat (first | apply Kd.R_alloc | apply Kd.R_drewN | apply Kd.R_drew)); exact Kd.R_mono HO_119001.out (fun _ hk => trivial)⟩, ⟨by (try simp only [hl119001_51]); (with_reducible repeat (first | refine blk_drewN ?_ _ | refine blk_drew ?_ | refine blk_alloc ?_ _)); exact BK101.out⟩, ⟨by (try simp only [hl119001_51]); (with_reducible repeat (first | refine blk_drewN ?_ _ | refine blk_drew ?_ | refine blk_alloc ?_ _)); exact BK118.out⟩, ⟨zz14⟩⟩
            replace c89 := Bool.eq_false_iff.mpr c89; subst c89; (have H1 : (laws_FnExactPileOfParking.j2 kj51 t142 t141 true) = some r := by rw [if_neg (show ¬ (false = true) by decide)] at H; exact H); clear H; have H := H1; clear H1; have H' := Aside0.mk H; clear H; obtain ⟨Ao92, co92, eo92⟩ := Kd.R_slice HO153.out; subst eo92; obtain ⟨Ao93, co93, eo93⟩ := Kd.R_slice HO_8.out; subst eo93; (go_wp2_with (first | ((with_reducible refine gate_callee (f := 36) rfl ?_); refine goesL_ (some 107) rfl rfl Try.func36 (by kernel_rfl) rfl #[.slice Ao92 t151.length co92, .slice Ao93 t110.length co93] rfl zz3 ?_; (with_reducible refine (laws_eqIntS.calls kj51 _ _ t151 _ _ t110 false _ ?side1 ?side2 ?side3 ?side4 A88.out).mono ?_); (case side1 => repeat (first | exact (Kd.R_reads' HO153.out).2.2 | (with_reducible refine Kd.C_alloc ?_ _) | (with_reducible refine Kd.C_drewN ?_ _) | (with_reducible refine Kd.C_drew ?_))); (case side2 => exact (Kd.R_reads' HO153.out).2.1); (case side3 => exact zz44); (case side4 => exact (Kd.R_reads' HO_8.out).2.1); rintro e w' ⟨rfl, ⟨nd, rfl⟩⟩; refine ⟨_, rfl, ?_⟩))); (go_meet); case rel => exact ⟨_, (true), zz7, H', ⟨by have := HJ16.out; have := HJ51.out; first | omega | exact Nat.le_refl _⟩, ⟨by (try simp only [hl119001_51]); (with_reducible repeat (first | apply Kd.R_alloc | apply Kd.R_drewN | apply Kd.R_drew)); exact Kd.R_mono HO_12.out (fun _ hk => trivial)⟩, ⟨by (try simp only [hl119001_51]); (with_reducible repeat (first | apply Kd.R_alloc | apply Kd.R_drewN | apply Kd.R_drew)); exact Kd.R_mono HO_119001.out (fun _ hk => trivial)⟩, ⟨by (try simp only [hl119001_51]); (with_reducible repeat (first | refine blk_drewN ?_ _ | refine blk_drew ?_ | refine blk_alloc ?_ _)); exact BK101.out⟩, ⟨by (try simp only [hl119001_51]); (with_reducible repeat (first | refine blk_drewN ?_ _ | refine blk_drew ?_ | refine blk_alloc ?_ _)); exact BK118.out⟩, ⟨zz14⟩⟩
          case rest =>
            clear HC78; (try clear c1); (try clear c2); (try clear p2); (try clear c3); (try clear c4); (try clear c4b0); (try clear c4b1); (try clear c5); (try clear c6); (try clear c7); (try clear c7b0); (try clear c8); (try clear c23); (try clear c30); (try clear c36); (try clear c38); (try clear c39); (try clear c40); (try clear c41); (try clear c43); (try clear c44); (try clear c46); (try clear c49); (try clear c59); (try clear c63); (try clear c63b0); (try clear c65); (try clear c70); (try clear c73); (try clear c73b0); (try clear c74); (try clear c74b0); (try clear c74b1); (try clear c81); (try clear c84); (try clear c85); (try clear c89); (try clear hcz19_0); (try clear hcz19_1); (try clear hcz21_0); (try clear hcz21_1); (try clear hcz27_0); (try clear hcz27_1); (try clear hcz31_0); (try clear hcz31_1); (try clear hcz34_0); (try clear hcz34_1); (try clear hcz60_0); (try clear hcz60_1); (try clear hcz82_0); (try clear hcz82_1); (try clear hcz9_0); (try clear hcz9_1); (try clear hfz19_0); (try clear hfz19_1); (try clear hfz21_0); (try clear hfz21_1); (try clear hfz27_0); (try clear hfz27_1); (try clear hfz31_0); (try clear hfz31_1); (try clear hfz34_0); (try clear hfz34_1); (try clear hfz60_0); (try clear hfz60_1); (try clear hfz82_0); (try clear hfz82_1); (try clear hfz9_0); (try clear hfz9_1); (try clear p2); obtain ⟨kq, x113_77, rfl, HA, HJ77, HO_12, HO_119001, BK101, BK118, HB⟩ := hcut; have hl12_77 := (Kd.R_reads' HO_12.out).1; rw [hl12_77] at HO_12; (try simp only [hl12_77]); (try simp only [hl12_77] at BK101); (try simp only [hl12_77] at BK118); (try simp only [hl12_77] at HO_119001)
            cases kq with
            | zero => exact absurd HA.out (by simp [laws_FnExactPileOfParking.j2])
            | succ kj77 =>
              have H := HA.out; clear HA; simp only [laws_FnExactPileOfParking.j2] at H; by_cases c94 : x113_77 = true
              · subst c94; (have H1 : (none) = some r := by rw [if_pos rfl] at H; exact H); clear H; have H := H1; clear H1; exact absurd H (by simp)
              replace c94 := Bool.eq_false_iff.mpr c94; subst c94; (have H1 : ((laws_heldIntS.f kj77 t142 1).bind fun t156 => (if t156 < 0 then (none) else (if t156 = t141 then (some true) else (none)))) = some r := by rw [if_neg (show ¬ (false = true) by decide)] at H; exact H); clear H; have H := H1; clear H1; replace H := Option.bind_eq_some_iff.mp H; obtain ⟨t156, A950, H⟩ := H; replace H : (if t156 < 0 then (none) else (if t156 = t141 then (some true) else (none))) = some r := H; have A95 := Aside0.mk A950; clear A950; by_cases c96 : t156 < 0
              · rw [if_pos c96] at H; exact absurd H (by simp)
              rw [if_neg c96] at H; have c96b0 : decide (t156 < 0) = false := decide_eq_false c96; clear c96; by_cases c97 : t156 = t141; rotate_left
              · rw [if_neg c97] at H; exact absurd H (by simp)
              rw [if_pos c97] at H; have c97b0 : (t156 == t141) = true := beq_iff_eq.mpr c97; have c97b1 : (t156 != t141) = false := bne_eq_false_iff_eq.mpr c97; clear c97; obtain rfl := Option.some.inj H; (go_wp2_with (first | ((with_reducible refine gate_callee (f := 40) rfl ?_); refine goesL_ (some 116) rfl rfl Try.func40 (by kernel_rfl) rfl #[.slice Ao79 t142.length co79, .int .i64 1] rfl zz3 ?_; (with_reducible refine (laws_heldIntS.calls kj77 _ _ t142 1 t156 _ ?side1 ?side2 A95.out).mono ?_); (case side1 => exact zz43); (case side2 => exact (Kd.R_reads' HO_12.out).2.1); rintro e w' ⟨rfl, ⟨nd, rfl⟩⟩; refine ⟨_, rfl, ?_⟩))); go_ret; exact ⟨zz6, zz14⟩
end Go.Proofs.Ytjecgolakaiddaa.P
end

section
namespace Go.Proofs.Ytjecgolakaiddaa.P
open Go.RowKit Go.Proofs.YtjecgolakaiddaaW.PrintWords Go.Proofs.YtjecgolakaiddaaW.PrintLast Go.Proofs.YtjecgolakaiddaaW.PrintMore
attribute [local go_sem] max2_int min2_int max_two min_two max_three min_three max_four min_four
set_option linter.unusedVariables false
set_option linter.unusedSimpArgs false
def impl_isAt.f (a0_0 : Int) (l0_1 : List (S70)) (a1 : Int) (a2 : Int) : Option (Bool) := (impl_within.f a1 0 (wrap64 ((l0_1.length : Int) - 1))).bind fun t102 => (if t102 = true then (if 0 ≤ a1 then (if a1 < (l0_1.length : Int) then (if ((rd_T70 l0_1 a1).f0) = a2 then (some true) else (some (((rd_T70 l0_1 a1).f1) == a2))) else (none)) else (none)) else (some false))
end Go.Proofs.Ytjecgolakaiddaa.P
end

section
namespace Go.Proofs.Ytjecgolakaiddaa.Cf
set_option linter.unusedVariables false
set_option linter.unusedSimpArgs false
open Go.RowKit Go.Proofs.YtjecgolakaiddaaW.PrintWords Go.Proofs.Ytjecgolakaiddaa.P
theorem forall_drop' {α : Type} {l : List α} {P : α → Prop} {i : Nat} (h : i < l.length) : (∀ e ∈ l.drop i, P e) ↔ (P l[i] ∧ ∀ e ∈ l.drop (i + 1), P e) := by
  rw [List.drop_eq_getElem_cons h]
  simp only [List.mem_cons, forall_eq_or_imp]
theorem implGraph (n : Int) (es : List E) : impl_GraphOk.f n es = some (gOk n es) := rfl
theorem gOk_true {n : Int} {es : List E} (h : gOk n es = true) : GOk n es := gOk_iff.1 h
theorem allWithin_l0 (a b : Int) (l : List Int) (hl : l.length ≤ 1048576) : ∀ (d i : Nat), i + d = l.length → Ep (fun k => impl_allWithin.l0 k a b l (l.length : Int) (i : Int)) (· = decide (∀ x ∈ l.drop i, a ≤ x ∧ x ≤ b)) := by
  intro d
  induction d with
  | zero =>
    intro i hi
    refine Ep.up ?_
    simp only [impl_allWithin.l0]
    refine Ep.neg (by omega) (Ep.now ?_)
    rw [List.drop_of_length_le (by omega)]
    simp
  | succ d ih =>
    intro i hi
    have hlt : i < l.length := by omega
    refine Ep.up ?_
    simp only [impl_allWithin.l0]
    refine Ep.pos (by omega) (Ep.pos (by omega) (Ep.pos (by omega) ?_))
    rw [rd_get hlt, wrap_succ (by omega)]
    refine Ep.bind0 (within_eq _ _ _) ?_
    refine Ep.ite (fun h => ?_) (fun h => Ep.now ?_)
    · have h' : a ≤ l[i] ∧ l[i] ≤ b := by simpa using h
      refine (ih (i + 1) (by omega)).mono ?_
      rintro _ rfl
      simp only [forall_drop' hlt, h', true_and]
    · have h' : ¬ (a ≤ l[i] ∧ l[i] ≤ b) := by simpa using h
      simp only [forall_drop' hlt, h', false_and, decide_false]
theorem allWithin_ok (l : List Int) (a b : Int) (hl : l.length ≤ 1048576) : Ep (fun k => impl_allWithin.f k l a b) (· = decide (∀ x ∈ l, a ≤ x ∧ x ≤ b)) := by
  have := allWithin_l0 a b l hl l.length 0 (by omega)
  simp only [impl_allWithin.f]
  rw [List.drop_zero] at this
  exact this
theorem isVertex_eq (n : Int) (es : List E) (v : Int) (hn : Wf .i64 n) : impl_isVertex.f n es v = some (gOk n es && decide (0 ≤ v ∧ v < n)) := by
  unfold impl_isVertex.f
  rw [implGraph]
  simp only [Option.bind_some]
  by_cases h : gOk n es = true
  · have h1 := (gOk_true h).1.1
    have h6 := (gOk_true h).1.2.1
    rw [if_pos h, wrap_id (by omega) (by omega), within_eq, h]
    simp only [Option.bind_some, Bool.true_and]
    have : (0 ≤ v ∧ v ≤ n - 1) ↔ (0 ≤ v ∧ v < n) := by omega
    simp only [this]
  · rw [if_neg h]
    have : gOk n es = false := by simpa using h
    rw [this]
    rfl
/-- The edge with this index is at v. -/
def At (es : List E) (k v : Int) : Prop := ∃ j : Nat, k = j ∧ ∃ h : j < es.length, es[j].f0 = v ∨ es[j].f1 = v
theorem At.of {es : List E} {j : Nat} {v : Int} (hj : j < es.length) : At es (j : Int) v ↔ (es[j].f0 = v ∨ es[j].f1 = v) := by
  constructor
  · rintro ⟨i, hi, h, hx⟩
    have : i = j := by omega
    subst this
    exact hx
  · intro h
    exact ⟨j, rfl, hj, h⟩
end Go.Proofs.Ytjecgolakaiddaa.Cf
end

section
namespace Go.Proofs.Ytjecgolakaiddaa.Cf
set_option linter.unusedVariables false
set_option linter.unusedSimpArgs false
def sumN : Nat → (Nat → Int) → Int
  | 0, _ => 0
  | n + 1, f => sumN n f + f n
def sumE (es : List E) (f : E → Int) : Int := (es.map f).sum
theorem sumE_cons (e : E) (r : List E) (f : E → Int) : sumE (e :: r) f = f e + sumE r f := by simp [sumE]
theorem sumN_congr {n : Nat} {f g : Nat → Int} (h : ∀ i, i < n → f i = g i) : sumN n f = sumN n g := by
  induction n with
  | zero => rfl
  | succ n ih => simp only [sumN]; rw [ih (fun i hi => h i (by omega)), h n (by omega)]
theorem sumN_le {n : Nat} {f g : Nat → Int} (h : ∀ i, i < n → f i ≤ g i) : sumN n f ≤ sumN n g := by
  induction n with
  | zero => exact Int.le_refl _
  | succ n ih =>
    simp only [sumN]
    have := ih (fun i hi => h i (by omega))
    have := h n (by omega)
    omega
theorem sumN_add (n : Nat) (f g : Nat → Int) : sumN n (fun i => f i + g i) = sumN n f + sumN n g := by
  induction n with
  | zero => rfl
  | succ n ih => simp only [sumN]; rw [ih]; omega
theorem sumN_zero (n : Nat) : sumN n (fun _ => 0) = 0 := by
  induction n with
  | zero => rfl
  | succ n ih => simp only [sumN]; rw [ih]; rfl
theorem sumN_const (n : Nat) (c : Int) : sumN n (fun _ => c) = n * c := by
  induction n with
  | zero => simp [sumN]
  | succ n ih => simp only [sumN]; rw [ih]; rw [Int.natCast_succ, Int.add_mul]; omega
theorem sumN_one {n : Nat} (k : Nat) (hk : k < n) (c : Int) : sumN n (fun i => if i = k then c else 0) = c := by
  induction n with
  | zero => omega
  | succ n ih =>
    simp only [sumN]
    by_cases h : n = k
    · subst h
      rw [if_pos rfl, sumN_congr (g := fun _ => 0) (fun i hi => by rw [if_neg (by omega)]), sumN_zero]
      omega
    · rw [ih (by omega), if_neg h]
      omega
theorem sumE_congr {es : List E} {f g : E → Int} (h : ∀ e ∈ es, f e = g e) : sumE es f = sumE es g := by
  unfold sumE
  rw [List.map_congr_left h]
theorem sumE_add (es : List E) (f g : E → Int) : sumE es (fun e => f e + g e) = sumE es f + sumE es g := by
  induction es with
  | nil => rfl
  | cons e r ih => rw [sumE_cons, sumE_cons, sumE_cons, ih]; omega
theorem sumE_le {es : List E} {f g : E → Int} (h : ∀ e ∈ es, f e ≤ g e) : sumE es f ≤ sumE es g := by
  induction es with
  | nil => exact Int.le_refl _
  | cons e r ih =>
    rw [sumE_cons, sumE_cons]
    have := ih (fun x hx => h x (List.mem_cons_of_mem _ hx))
    have := h e List.mem_cons_self
    omega
theorem sumE_zero {es : List E} {f : E → Int} (h : ∀ e ∈ es, f e = 0) : sumE es f = 0 := by
  induction es with
  | nil => rfl
  | cons e r ih => rw [sumE_cons, ih (fun x hx => h x (List.mem_cons_of_mem _ hx)), h e List.mem_cons_self]; rfl
theorem sumE_nonneg {es : List E} {f : E → Int} (h : ∀ e ∈ es, 0 ≤ f e) : 0 ≤ sumE es f := by
  have := sumE_le (es := es) (f := fun _ => 0) (g := f) h
  rw [sumE_zero (fun _ _ => rfl)] at this
  exact this
theorem sumE_neg (es : List E) (f : E → Int) : sumE es (fun e => - f e) = - sumE es f := by
  induction es with
  | nil => rfl
  | cons e r ih => rw [sumE_cons, sumE_cons, ih]; omega
/-- What an edge takes from w when the script s is fired. -/
def lapE (s : Int → Int) (w : Int) (e : E) : Int := (if e.f0 = w then s e.f0 - s e.f1 else 0) + (if e.f1 = w then s e.f1 - s e.f0 else 0)
/-- What w loses when the script s is fired. -/
def lap (es : List E) (s : Int → Int) (w : Int) : Int := sumE es (lapE s w)
def ind (P : Int → Bool) (v : Int) : Int := if P v then 1 else 0
def one (v : Int) (t : Int) (w : Int) : Int := if w = v then t else 0
theorem lap_nil (s : Int → Int) (w : Int) : lap [] s w = 0 := rfl
theorem lap_cons (e : E) (r : List E) (s : Int → Int) (w : Int) : lap (e :: r) s w = lapE s w e + lap r s w := sumE_cons _ _ _
theorem lap_add (es : List E) (s t : Int → Int) (w : Int) : lap es (fun v => s v + t v) w = lap es s w + lap es t w := by
  unfold lap
  rw [← sumE_add]
  apply sumE_congr
  intro e _
  simp only [lapE]
  split <;> split <;> omega
theorem lap_neg (es : List E) (s : Int → Int) (w : Int) : lap es (fun v => - s v) w = - lap es s w := by
  unfold lap
  rw [← sumE_neg]
  apply sumE_congr
  intro e _
  simp only [lapE]
  split <;> split <;> omega
theorem lap_sub (es : List E) (s t : Int → Int) (w : Int) : lap es (fun v => s v - t v) w = lap es s w - lap es t w := by
  have := lap_add es s (fun v => - t v) w
  rw [lap_neg] at this
  rw [show (fun v => s v - t v) = (fun v => s v + - t v) from funext fun v => by omega, this]
  omega
theorem lap_congr {n : Int} {es : List E} (hes : ∀ e ∈ es, EOk n e) {s t : Int → Int} (h : ∀ v, 0 ≤ v → v < n → s v = t v) (w : Int) : lap es s w = lap es t w := by
  apply sumE_congr
  intro e he
  have hk := hes e he
  unfold EOk at hk
  unfold lapE
  rw [h e.f0 (by omega) (by omega), h e.f1 (by omega) (by omega)]
theorem lap_const {es : List E} {s : Int → Int} {c : Int} (h : ∀ e ∈ es, s e.f0 = c ∧ s e.f1 = c) (w : Int) : lap es s w = 0 := by
  apply sumE_zero
  intro e he
  unfold lapE
  rw [(h e he).1, (h e he).2]
  split <;> split <;> omega
/-- q-reduced. -/
def Red (n : Nat) (es : List E) (q : Int) (d : Int → Int) : Prop :=
  (∀ v : Int, 0 ≤ v → v < n → v ≠ q → 0 ≤ d v) ∧ ∀ S : Int → Bool, S q = false → (∃ v : Int, 0 ≤ v ∧ v < n ∧ S v = true) → ∃ v : Int, 0 ≤ v ∧ v < n ∧ S v = true ∧ d v < lap es (ind S) v
def below (n : Nat) (s : Int → Int) (t : Int) : Nat := (List.range n).countP (fun i => decide (s (i : Nat) < t))
def valE (v : Int) (e : E) : Int := if e.f0 = v ∨ e.f1 = v then 1 else 0
/-- The number of edges at a vertex. -/
def val (es : List E) (v : Int) : Int := sumE es (valE v)
def multE (a b : Int) (e : E) : Int := if (e.f0 = a ∧ e.f1 = b) ∨ (e.f0 = b ∧ e.f1 = a) then 1 else 0
/-- The number of edges between two vertices. -/
def mult (es : List E) (a b : Int) : Int := sumE es (multE a b)
theorem val_nonneg (es : List E) (v : Int) : 0 ≤ val es v := sumE_nonneg fun e _ => by unfold valE; split <;> omega
theorem mult_nonneg (es : List E) (a b : Int) : 0 ≤ mult es a b := sumE_nonneg fun e _ => by unfold multE; split <;> omega
theorem sumE_len {es : List E} {f : E → Int} (h : ∀ e ∈ es, f e ≤ 1) : sumE es f ≤ es.length := by
  induction es with
  | nil => simp [sumE]
  | cons e r ih =>
    rw [sumE_cons]
    have := ih (fun x hx => h x (List.mem_cons_of_mem _ hx))
    have := h e List.mem_cons_self
    simp only [List.length_cons]
    omega
theorem val_le (es : List E) (v : Int) : val es v ≤ es.length := sumE_len fun e _ => by unfold valE; split <;> omega
theorem mult_le (es : List E) (a b : Int) : mult es a b ≤ es.length := sumE_len fun e _ => by unfold multE; split <;> omega
/-- s is reached from p by toppling unstable vertices other than q. -/
inductive Legal (n : Nat) (es : List E) (q : Int) (p : Int → Int) : (Int → Int) → Prop
  | zero : Legal n es q p (fun _ => 0)
  | step {s : Int → Int} {v : Int} : Legal n es q p s → 0 ≤ v → v < n → v ≠ q → val es v ≤ p v - lap es s v → Legal n es q p (fun w => s w + one v 1 w)
theorem Legal.nonneg {n : Nat} {es : List E} {q : Int} {p s : Int → Int} (h : Legal n es q p s) : (∀ w, 0 ≤ s w) ∧ s q = 0 := by
  induction h with
  | zero => exact ⟨fun _ => Int.le_refl _, rfl⟩
  | @step s v _ _ _ hq _ ih =>
    refine ⟨fun w => ?_, ?_⟩
    · have := ih.1 w
      show 0 ≤ s w + one v 1 w
      unfold one
      split <;> omega
    · have := ih.2
      show s q + one v 1 q = 0
      unfold one
      rw [if_neg (fun x : q = v => hq x.symm)]
      omega
end Go.Proofs.Ytjecgolakaiddaa.Cf
end

section
namespace Go.Proofs.Ytjecgolakaiddaa.P
open Go.RowKit Go.Proofs.YtjecgolakaiddaaW.PrintWords Go.Proofs.YtjecgolakaiddaaW.PrintLast Go.Proofs.YtjecgolakaiddaaW.PrintMore
attribute [local go_sem] max2_int min2_int max_two min_two max_three min_three max_four min_four
set_option linter.unusedVariables false
set_option linter.unusedSimpArgs false
def spec_IsEffective.l0 : Nat → List Int → Int → Int → Option (Bool)
  | 0, _, _, _ => none
  | k + 1, x5, x6, x7 => if x7 < x6 then (if 0 ≤ x7 then (if x7 < (x5.length : Int) then (if (rd x5 x7) < 0 then (some false) else (spec_IsEffective.l0 k x5 x6 (wrap64 (x7 + 1)))) else (none)) else (none)) else (some true)
def spec_IsEffective.f (k : Nat) (l0 : List Int) : Option (Bool) := spec_IsEffective.l0 k l0 (l0.length : Int) 0
theorem spec_IsEffective.mono_l : ∀ k, (∀ y0 y1 y2, LeO (spec_IsEffective.l0 k y0 y1 y2) (spec_IsEffective.l0 (k + 1) y0 y1 y2))
  | 0 => fun _ _ _ r h => by simp [spec_IsEffective.l0] at h
  | k + 1 => by
    have ih0 := spec_IsEffective.mono_l k
    · intro y0 y1 y2
      unfold spec_IsEffective.l0
      exact zm0
theorem spec_IsEffective.mono : ∀ a0 k, LeO (spec_IsEffective.f k a0) (spec_IsEffective.f (k + 1) a0) := by
  intro a0 k; have ih0 := spec_IsEffective.mono_l k; unfold spec_IsEffective.f; exact zm0
def impl_IsEffective.l0 : Nat → List Int → Int → Int → Option (Bool)
  | 0, _, _, _ => none
  | k + 1, x5, x6, x7 => if x7 < x6 then (if 0 ≤ x7 then (if x7 < (x5.length : Int) then (if (rd x5 x7) < 0 then (some false) else (impl_IsEffective.l0 k x5 x6 (wrap64 (x7 + 1)))) else (none)) else (none)) else (some true)
def impl_IsEffective.f (k : Nat) (l0 : List Int) : Option (Bool) := impl_IsEffective.l0 k l0 (l0.length : Int) 0
theorem impl_IsEffective.mono_l : ∀ k, (∀ y0 y1 y2, LeO (impl_IsEffective.l0 k y0 y1 y2) (impl_IsEffective.l0 (k + 1) y0 y1 y2))
  | 0 => fun _ _ _ r h => by simp [impl_IsEffective.l0] at h
  | k + 1 => by
    have ih0 := impl_IsEffective.mono_l k
    · intro y0 y1 y2
      unfold impl_IsEffective.l0
      exact zm0
theorem impl_IsEffective.mono : ∀ a0 k, LeO (impl_IsEffective.f k a0) (impl_IsEffective.f (k + 1) a0) := by
  intro a0 k; have ih0 := impl_IsEffective.mono_l k; unfold impl_IsEffective.f; exact zm0
def spec_PileOk.f (k : Nat) (a0_0 : Int) (l0_1 : List (S70)) (l1 : List Int) (a2 : Int) : Option (Bool) := (spec_DivisorOk.f k a0_0 l0_1 l1).bind fun t102 => (if t102 = true then ((spec_l01In.f a2 0 (wrap64 (a0_0 - 1))).bind fun t103 => (if t103 = true then ((spec_IsEffective.f k l1).bind fun t104 => (if t104 = true then (if 0 ≤ a2 then (if a2 < (l1.length : Int) then (some ((rd l1 a2) == 0)) else (none)) else (none)) else (some false))) else (some false))) else (some false))
theorem spec_PileOk.mono : ∀ a0 a1 a2 a3 k, LeO (spec_PileOk.f k a0 a1 a2 a3) (spec_PileOk.f (k + 1) a0 a1 a2 a3) := by
  intro a0 a1 a2 a3 k; unfold spec_PileOk.f; repeat' first | (with_reducible apply spec_DivisorOk.mono) | (with_reducible apply spec_IsEffective.mono) | (with_reducible exact LeO.refl _) | (with_reducible exact LeO.none _) | (with_reducible refine LeO.ite ?_ ?_) | (with_reducible refine LeO.bind ?_ (fun _ => ?_)) | apply spec_DivisorOk.mono | apply spec_IsEffective.mono | exact LeO.none _ | refine LeO.ite ?_ ?_ | refine LeO.bind ?_ (fun _ => ?_)
def impl_PileOk.f (k : Nat) (a0_0 : Int) (l0_1 : List (S70)) (l1 : List Int) (a2 : Int) : Option (Bool) := (impl_DivisorOk.f k a0_0 l0_1 l1).bind fun t102 => (if t102 = true then ((impl_within.f a2 0 (wrap64 (a0_0 - 1))).bind fun t103 => (if t103 = true then ((impl_IsEffective.f k l1).bind fun t104 => (if t104 = true then (if 0 ≤ a2 then (if a2 < (l1.length : Int) then (some ((rd l1 a2) == 0)) else (none)) else (none)) else (some false))) else (some false))) else (some false))
theorem impl_PileOk.mono : ∀ a0 a1 a2 a3 k, LeO (impl_PileOk.f k a0 a1 a2 a3) (impl_PileOk.f (k + 1) a0 a1 a2 a3) := by
  intro a0 a1 a2 a3 k; unfold impl_PileOk.f; repeat' first | (with_reducible apply impl_DivisorOk.mono) | (with_reducible apply impl_IsEffective.mono) | (with_reducible exact LeO.refl _) | (with_reducible exact LeO.none _) | (with_reducible refine LeO.ite ?_ ?_) | (with_reducible refine LeO.bind ?_ (fun _ => ?_)) | apply impl_DivisorOk.mono | apply impl_IsEffective.mono | exact LeO.none _ | refine LeO.ite ?_ ?_ | refine LeO.bind ?_ (fun _ => ?_)
end Go.Proofs.Ytjecgolakaiddaa.P
end

section
namespace Go.Proofs.Ytjecgolakaiddaa.Cf
set_option linter.unusedVariables false
set_option linter.unusedSimpArgs false
open Go.RowKit Go.Proofs.YtjecgolakaiddaaW.PrintWords Go.Proofs.Ytjecgolakaiddaa.P
/-- A divisor. -/
def dOk (n : Int) (es : List E) (d : List Int) : Bool := gOk n es && (decide ((d.length : Int) = n) && decide (∀ x ∈ d, -60 ≤ x ∧ x ≤ 60))
theorem dOk_iff {n : Int} {es : List E} {d : List Int} : dOk n es d = true ↔ GOk n es ∧ (d.length : Int) = n ∧ ∀ x ∈ d, -60 ≤ x ∧ x ≤ 60 := by
  unfold dOk
  simp only [Bool.and_eq_true, decide_eq_true_eq, gOk_iff]
theorem specDiv_l0 (o : List Int) (hl : o.length ≤ 1048576) : ∀ (d i : Nat), i + d = o.length → Ep (fun k => spec_DivisorOk.l0 k o (o.length : Int) (i : Int)) (· = decide (∀ x ∈ o.drop i, -60 ≤ x ∧ x ≤ 60)) := by
  intro d
  induction d with
  | zero =>
    intro i hi
    refine Ep.up ?_
    simp only [spec_DivisorOk.l0]
    refine Ep.neg (by omega) (Ep.now ?_)
    rw [List.drop_of_length_le (by omega)]
    simp
  | succ d ih =>
    intro i hi
    have hlt : i < o.length := by omega
    refine Ep.up ?_
    simp only [spec_DivisorOk.l0]
    refine Ep.pos (by omega) (Ep.pos (by omega) (Ep.pos (by omega) ?_))
    rw [rd_get hlt, wrap_succ (by omega)]
    refine Ep.bind0 (l01In_eq _ _ _) ?_
    refine Ep.ite (fun h => ?_) (fun h => Ep.now ?_)
    · have h' : -60 ≤ o[i] ∧ o[i] ≤ 60 := by simpa using h
      refine (ih (i + 1) (by omega)).mono ?_
      rintro _ rfl
      simp only [forall_drop' hlt, h', true_and]
    · have h' : ¬ (-60 ≤ o[i] ∧ o[i] ≤ 60) := by simpa using h
      simp only [forall_drop' hlt, h', false_and, decide_false]
theorem specDiv (n : Int) (es : List E) (d : List Int) (hl : d.length ≤ 1048576) : Ep (fun k => spec_DivisorOk.f k n es d) (· = dOk n es d) := by
  simp only [spec_DivisorOk.f, dOk]
  refine Ep.bind (specGraph n es) ?_
  rintro _ rfl
  refine Ep.ite (fun hg => ?_) (fun hg => ?_)
  · refine Ep.up ?_
    simp only [spec_DivisorOk.j0]
    refine Ep.ite (fun h => Ep.now ?_) (fun h => ?_)
    · have h' : ¬ (d.length : Int) = n := by simpa using h
      simp [h']
    · have h' : (d.length : Int) = n := by simpa using h
      refine (specDiv_l0 d hl d.length 0 (by omega)).mono ?_
      rintro _ rfl
      rw [List.drop_zero, hg]
      simp only [h', decide_true, Bool.true_and]
  · refine Ep.up ?_
    simp only [spec_DivisorOk.j0]
    refine Ep.pos trivial (Ep.now ?_)
    have : gOk n es = false := by simpa using hg
    simp [this]
theorem implDiv (n : Int) (es : List E) (d : List Int) (hl : d.length ≤ 1048576) : Ep (fun k => impl_DivisorOk.f k n es d) (· = dOk n es d) := by
  simp only [impl_DivisorOk.f, dOk]
  refine Ep.bind0 (implGraph n es) (Ep.ite (fun hg => ?_) (fun hg => Ep.now ?_))
  · refine Ep.ite (fun h => ?_) (fun h => Ep.now ?_)
    · refine Ep.bind (allWithin_ok d (-60) 60 hl) ?_
      rintro _ rfl
      refine Ep.now ?_
      rw [hg]
      simp only [h, decide_true, Bool.true_and]
    · simp [h]
  · have : gOk n es = false := by simpa using hg
    simp [this]
/-- The valence, 0 where there is no such vertex. -/
def valG (n : Int) (es : List E) (v : Int) : Int := if 0 ≤ v ∧ v < n then val es v else 0
theorem val_drop {es : List E} {i : Nat} (h : i < es.length) (v : Int) : val (es.drop i) v = valE v es[i] + val (es.drop (i + 1)) v := by
  rw [List.drop_eq_getElem_cons h]
  exact sumE_cons _ _ _
theorem specVal_loop (v : Int) (es : List E) (hl : es.length ≤ 1048576) : ∀ (d i : Nat) (a : Int), i + d = es.length → 0 ≤ a → a ≤ i → Ep (fun k => spec_Valence.l0 k v a es (es.length : Int) (i : Int)) (· = a + val (es.drop i) v) := by
  intro d
  induction d with
  | zero =>
    intro i a hi h0 ha
    refine Ep.up ?_
    simp only [spec_Valence.l0]
    refine Ep.neg (by omega) (Ep.now ?_)
    rw [List.drop_of_length_le (by omega)]
    simp [val, sumE]
  | succ d ih =>
    intro i a hi h0 ha
    have hlt : i < es.length := by omega
    refine Ep.up ?_
    simp only [spec_Valence.l0]
    refine Ep.pos (by omega) (Ep.pos (by omega) (Ep.pos (by omega) ?_))
    rw [rdE_get hlt, wrap_succ (by omega), wrap_id (x := a + 1) (by omega) (by omega), val_drop hlt]
    refine Ep.ite (fun h => ?_) (fun h => Ep.ite (fun h2 => ?_) (fun h2 => ?_))
    · refine (ih (i + 1) (a + 1) (by omega) (by omega) (by omega)).mono ?_
      rintro _ rfl
      unfold valE
      rw [if_pos (.inl h)]
      omega
    · refine (ih (i + 1) (a + 1) (by omega) (by omega) (by omega)).mono ?_
      rintro _ rfl
      unfold valE
      rw [if_pos (.inr h2)]
      omega
    · refine (ih (i + 1) a (by omega) h0 (by omega)).mono ?_
      rintro _ rfl
      unfold valE
      rw [if_neg (by rintro (x | x); exact h x; exact h2 x)]
      omega
theorem specValence (n : Int) (es : List E) (v : Int) (hl : es.length ≤ 1048576) : Ep (fun k => spec_Valence.f k n es v) (· = valG n es v) := by
  have hv : spec_l02Vert.f n es v = some (decide (0 ≤ v ∧ v < n)) := by
    unfold spec_l02Vert.f
    by_cases h : v ≥ 0
    · rw [if_pos h]
      have : (0 ≤ v ∧ v < n) ↔ v < n := ⟨fun x => x.2, fun x => ⟨h, x⟩⟩
      simp only [this]
    · rw [if_neg h]
      have : ¬ (0 ≤ v ∧ v < n) := fun x => h x.1
      simp only [this, decide_false]
  simp only [spec_Valence.f, valG]
  refine Ep.bind0 hv (Ep.ite (fun h => ?_) (fun h => Ep.now ?_))
  · refine (specVal_loop v es hl es.length 0 0 (by omega) (by omega) (by omega)).mono ?_
    rintro _ rfl
    rw [if_pos (by simpa using h), List.drop_zero]
    omega
  · rw [if_neg (by simpa using h)]
theorem implVal_loop (v : Int) (es : List E) (hl : es.length ≤ 1048576) : ∀ (d i : Nat) (a : Int), i + d = es.length → 0 ≤ a → a ≤ i → Ep (fun k => impl_Valence.l0 k v a es (es.length : Int) (i : Int)) (· = a + val (es.drop i) v) := by
  intro d
  induction d with
  | zero =>
    intro i a hi h0 ha
    refine Ep.up ?_
    simp only [impl_Valence.l0]
    refine Ep.neg (by omega) (Ep.now ?_)
    rw [List.drop_of_length_le (by omega)]
    simp [val, sumE]
  | succ d ih =>
    intro i a hi h0 ha
    have hlt : i < es.length := by omega
    refine Ep.up ?_
    simp only [impl_Valence.l0]
    refine Ep.pos (by omega) (Ep.pos (by omega) (Ep.pos (by omega) ?_))
    rw [rdE_get hlt, wrap_succ (by omega), wrap_id (x := a + 1) (by omega) (by omega), val_drop hlt]
    refine Ep.ite (fun h => ?_) (fun h => Ep.ite (fun h2 => ?_) (fun h2 => ?_))
    · refine (ih (i + 1) (a + 1) (by omega) (by omega) (by omega)).mono ?_
      rintro _ rfl
      unfold valE
      rw [if_pos (.inl h)]
      omega
    · refine (ih (i + 1) (a + 1) (by omega) (by omega) (by omega)).mono ?_
      rintro _ rfl
      unfold valE
      rw [if_pos (.inr h2)]
      omega
    · refine (ih (i + 1) a (by omega) h0 (by omega)).mono ?_
      rintro _ rfl
      unfold valE
      rw [if_neg (by rintro (x | x); exact h x; exact h2 x)]
      omega
theorem implValence (n : Int) (es : List E) (v : Int) (hl : es.length ≤ 1048576) : Ep (fun k => impl_Valence.f k n es v) (· = valG n es v) := by
  simp only [impl_Valence.f, valG]
  refine Ep.ite (fun h => ?_) (fun h => ?_)
  · refine Ep.up ?_
    simp only [impl_Valence.j0]
    refine Ep.pos trivial (Ep.now ?_)
    rw [if_neg (by omega)]
  · refine Ep.up ?_
    simp only [impl_Valence.j0]
    refine Ep.ite (fun h2 => Ep.now ?_) (fun h2 => ?_)
    · have : v ≥ n := by simpa using h2
      rw [if_neg (by omega)]
    · have : ¬ v ≥ n := by simpa using h2
      refine (implVal_loop v es hl es.length 0 0 (by omega) (by omega) (by omega)).mono ?_
      rintro _ rfl
      rw [if_pos (by omega), List.drop_zero]
      omega
end Go.Proofs.Ytjecgolakaiddaa.Cf
end

section
namespace Go.Proofs.Ytjecgolakaiddaa.P
open Go.RowKit Go.Proofs.YtjecgolakaiddaaW.PrintWords Go.Proofs.YtjecgolakaiddaaW.PrintLast Go.Proofs.YtjecgolakaiddaaW.PrintMore
attribute [local go_sem] max2_int min2_int max_two min_two max_three min_three max_four min_four
set_option linter.unusedVariables false
set_option linter.unusedSimpArgs false
def spec_l10Unstable.l0 : Nat → Int → List Int → Int → Int → Int → List (S70) → Option (Int)
  | 0, _, _, _, _, _, _ => none
  | k + 1, x2, x9, x10, x11, x102000, x102001 => if x11 < x10 then (if 0 ≤ x11 then (if x11 < (x9.length : Int) then (if x11 = x2 then (spec_l10Unstable.l0 k x2 x9 x10 (wrap64 (x11 + 1)) x102000 x102001) else ((spec_Valence.f k x102000 x102001 x11).bind fun t103 => (if (rd x9 x11) ≥ t103 then (some x11) else (spec_l10Unstable.l0 k x2 x9 x10 (wrap64 (x11 + 1)) x102000 x102001)))) else (none)) else (none)) else (some (-1))
def spec_l10Unstable.f (k : Nat) (a0_0 : Int) (l0_1 : List (S70)) (l1 : List Int) (a2 : Int) : Option (Int) := spec_l10Unstable.l0 k a2 l1 (l1.length : Int) 0 a0_0 l0_1
theorem spec_l10Unstable.mono_l : ∀ k, (∀ y0 y1 y2 y3 y4 y5, LeO (spec_l10Unstable.l0 k y0 y1 y2 y3 y4 y5) (spec_l10Unstable.l0 (k + 1) y0 y1 y2 y3 y4 y5))
  | 0 => fun _ _ _ _ _ _ r h => by simp [spec_l10Unstable.l0] at h
  | k + 1 => by
    have ih0 := spec_l10Unstable.mono_l k
    · intro y0 y1 y2 y3 y4 y5
      unfold spec_l10Unstable.l0
      exact zm27
theorem spec_l10Unstable.mono : ∀ a0 a1 a2 a3 k, LeO (spec_l10Unstable.f k a0 a1 a2 a3) (spec_l10Unstable.f (k + 1) a0 a1 a2 a3) := by
  intro a0 a1 a2 a3 k; have ih0 := spec_l10Unstable.mono_l k; unfold spec_l10Unstable.f; exact zm27
def impl_unstable.l0 : Nat → Int → List Int → Int → Int → Int → List (S70) → Option (Int)
  | 0, _, _, _, _, _, _ => none
  | k + 1, x2, x9, x10, x11, x102000, x102001 => if x11 < x10 then (if 0 ≤ x11 then (if x11 < (x9.length : Int) then (if x11 = x2 then (impl_unstable.l0 k x2 x9 x10 (wrap64 (x11 + 1)) x102000 x102001) else ((impl_Valence.f k x102000 x102001 x11).bind fun t103 => (if (rd x9 x11) ≥ t103 then (some x11) else (impl_unstable.l0 k x2 x9 x10 (wrap64 (x11 + 1)) x102000 x102001)))) else (none)) else (none)) else (some (-1))
def impl_unstable.f (k : Nat) (a0_0 : Int) (l0_1 : List (S70)) (l1 : List Int) (a2 : Int) : Option (Int) := impl_unstable.l0 k a2 l1 (l1.length : Int) 0 a0_0 l0_1
theorem impl_unstable.mono_l : ∀ k, (∀ y0 y1 y2 y3 y4 y5, LeO (impl_unstable.l0 k y0 y1 y2 y3 y4 y5) (impl_unstable.l0 (k + 1) y0 y1 y2 y3 y4 y5))
  | 0 => fun _ _ _ _ _ _ r h => by simp [impl_unstable.l0] at h
  | k + 1 => by
    have ih0 := impl_unstable.mono_l k
    · intro y0 y1 y2 y3 y4 y5
      unfold impl_unstable.l0
      exact zm9
theorem impl_unstable.mono : ∀ a0 a1 a2 a3 k, LeO (impl_unstable.f k a0 a1 a2 a3) (impl_unstable.f (k + 1) a0 a1 a2 a3) := by
  intro a0 a1 a2 a3 k; have ih0 := impl_unstable.mono_l k; unfold impl_unstable.f; exact zm9
def spec_IsStable.f (k : Nat) (a0_0 : Int) (l0_1 : List (S70)) (l1 : List Int) (a2 : Int) : Option (Bool) := (spec_PileOk.f k a0_0 l0_1 l1 a2).bind fun t102 => (if t102 = true then ((spec_l10Unstable.f k a0_0 l0_1 l1 a2).bind fun t103 => (some (decide (t103 < 0)))) else (some false))
theorem spec_IsStable.mono : ∀ a0 a1 a2 a3 k, LeO (spec_IsStable.f k a0 a1 a2 a3) (spec_IsStable.f (k + 1) a0 a1 a2 a3) := by
  intro a0 a1 a2 a3 k; unfold spec_IsStable.f; repeat' first | (with_reducible apply spec_PileOk.mono) | (with_reducible apply spec_l10Unstable.mono) | (with_reducible exact LeO.refl _) | (with_reducible exact LeO.none _) | (with_reducible refine LeO.ite ?_ ?_) | (with_reducible refine LeO.bind ?_ (fun _ => ?_)) | apply spec_PileOk.mono | apply spec_l10Unstable.mono | exact LeO.none _ | refine LeO.ite ?_ ?_ | refine LeO.bind ?_ (fun _ => ?_)
def impl_IsStable.f (k : Nat) (a0_0 : Int) (l0_1 : List (S70)) (l1 : List Int) (a2 : Int) : Option (Bool) := (impl_PileOk.f k a0_0 l0_1 l1 a2).bind fun t102 => (if t102 = true then ((impl_unstable.f k a0_0 l0_1 l1 a2).bind fun t103 => (some (decide (t103 < 0)))) else (some false))
theorem impl_IsStable.mono : ∀ a0 a1 a2 a3 k, LeO (impl_IsStable.f k a0 a1 a2 a3) (impl_IsStable.f (k + 1) a0 a1 a2 a3) := by
  intro a0 a1 a2 a3 k; unfold impl_IsStable.f; repeat' first | (with_reducible apply impl_PileOk.mono) | (with_reducible apply impl_unstable.mono) | (with_reducible exact LeO.refl _) | (with_reducible exact LeO.none _) | (with_reducible refine LeO.ite ?_ ?_) | (with_reducible refine LeO.bind ?_ (fun _ => ?_)) | apply impl_PileOk.mono | apply impl_unstable.mono | exact LeO.none _ | refine LeO.ite ?_ ?_ | refine LeO.bind ?_ (fun _ => ?_)
end Go.Proofs.Ytjecgolakaiddaa.P
end

section
namespace Go.Proofs.Ytjecgolakaiddaa.Cf
set_option linter.unusedVariables false
set_option linter.unusedSimpArgs false
/-- The edges from v to a list of vertices. -/
def burnSum (es : List E) (b : List Int) (v : Int) : Int := (b.map (mult es v)).sum
inductive Burn (n : Nat) (es : List E) (d : Int → Int) (q : Int) : List Int → Prop
  | start : Burn n es d q [q]
  | step {b : List Int} {v : Int} : Burn n es d q b → 0 ≤ v → v < n → v ∉ b → d v < burnSum es b v → Burn n es d q (b ++ [v])
theorem Burn.ok {n : Nat} {es : List E} {d : Int → Int} {q : Int} {b : List Int} (hq : 0 ≤ q ∧ q < n) (h : Burn n es d q b) : b.Nodup ∧ (∀ v ∈ b, 0 ≤ v ∧ v < n) ∧ q ∈ b := by
  induction h with
  | start => exact ⟨by simp, fun v hv => by rw [List.mem_singleton.1 hv]; exact hq, by simp⟩
  | @step b v _ h0 h1 hv _ ih =>
    refine ⟨?_, fun x hx => ?_, List.mem_append_left _ ih.2.2⟩
    · rw [List.nodup_append]
      exact ⟨ih.1, by simp, fun a ha c hc => by
        rw [List.mem_singleton.1 hc]
        rintro rfl
        exact hv ha⟩
    · rcases List.mem_append.1 hx with hx | hx
      · exact ih.2.1 x hx
      · rw [List.mem_singleton.1 hx]
        exact ⟨h0, h1⟩
theorem Burn.len {n : Nat} {es : List E} {d : Int → Int} {q : Int} {b : List Int} (hq : 0 ≤ q ∧ q < n) (h : Burn n es d q b) : b.length ≤ n := nodup_len n b (h.ok hq).1 (h.ok hq).2.1
theorem sum_ind (x : Int) : ∀ (b : List Int), b.Nodup → (b.map (fun w => if x = w then (1 : Int) else 0)).sum = if x ∈ b then 1 else 0
  | [], _ => by simp
  | a :: r, h => by
    have ih := sum_ind x r (List.nodup_cons.1 h).2
    have hn := (List.nodup_cons.1 h).1
    simp only [List.map_cons, List.sum_cons, ih, List.mem_cons]
    by_cases e : x = a
    · subst e
      simp [hn]
    · simp [e]
theorem sum_zero (b : List Int) : (b.map (fun _ => (0 : Int))).sum = 0 := by
  induction b with
  | nil => rfl
  | cons a r ih => simp only [List.map_cons, List.sum_cons, ih]; rfl
theorem sum_add (b : List Int) (f g : Int → Int) : (b.map (fun w => f w + g w)).sum = (b.map f).sum + (b.map g).sum := by
  induction b with
  | nil => rfl
  | cons a r ih => simp only [List.map_cons, List.sum_cons, ih]; omega
/-- What does not burn takes as much as burns at its edges. -/
theorem burnSum_lap {n : Int} {es : List E} (hes : ∀ e ∈ es, EOk n e) {b : List Int} (hb : b.Nodup) {v : Int} (hv : v ∉ b) : burnSum es b v = lap es (ind (fun x => decide (x ∉ b))) v := by
  induction es with
  | nil =>
    unfold burnSum
    rw [lap_nil]
    exact sum_zero b
  | cons e r ih =>
    have ih := ih (fun x hx => hes x (List.mem_cons_of_mem _ hx))
    have hk := hes e List.mem_cons_self
    unfold EOk at hk
    have h1 : burnSum (e :: r) b v = (b.map (fun w => multE v w e)).sum + burnSum r b v := by
      unfold burnSum
      rw [← sum_add]
      congr 1
    rw [h1, ih, lap_cons]
    congr 1
    unfold lapE ind multE
    by_cases a : e.f0 = v
    · have c : ¬ e.f1 = v := by omega
      have key : (b.map (fun w => if (e.f0 = v ∧ e.f1 = w) ∨ (e.f0 = w ∧ e.f1 = v) then (1 : Int) else 0)).sum = if e.f1 ∈ b then 1 else 0 := by
        rw [← sum_ind e.f1 b hb]
        congr 1
        apply List.map_congr_left
        intro w _
        simp [a, c]
      rw [key, if_pos a, if_neg c, a]
      by_cases m : e.f1 ∈ b <;> simp [m, hv]
    · by_cases c : e.f1 = v
      · have key : (b.map (fun w => if (e.f0 = v ∧ e.f1 = w) ∨ (e.f0 = w ∧ e.f1 = v) then (1 : Int) else 0)).sum = if e.f0 ∈ b then 1 else 0 := by
          rw [← sum_ind e.f0 b hb]
          congr 1
          apply List.map_congr_left
          intro w _
          simp [a, c]
        rw [key, if_neg a, if_pos c, c]
        by_cases m : e.f0 ∈ b <;> simp [m, hv]
      · have key : (b.map (fun w => if (e.f0 = v ∧ e.f1 = w) ∨ (e.f0 = w ∧ e.f1 = v) then (1 : Int) else 0)).sum = 0 := by
          exact (congrArg List.sum (List.map_congr_left (g := fun _ => (0 : Int)) (fun w _ => by simp [a, c]))).trans (sum_zero b)
        rw [key, if_neg a, if_neg c]
        rfl
/-- A lesser set takes more. -/
theorem lap_ind_mono {es : List E} {S T : Int → Bool} {v : Int} (hv : S v = true) (hw : T v = true) (h : ∀ x, S x = true → T x = true) : lap es (ind T) v ≤ lap es (ind S) v := by
  apply sumE_le
  intro e _
  have h0 := h e.f0
  have h1 := h e.f1
  unfold lapE ind
  by_cases a : e.f0 = v
  · by_cases b : e.f1 = v
    · simp [a, b]
    · rw [if_pos a, if_pos a, if_neg b, if_neg b, a, hv, hw]
      cases hs : S e.f1 <;> cases ht : T e.f1 <;> simp_all
  · by_cases b : e.f1 = v
    · rw [if_neg a, if_neg a, if_pos b, if_pos b, b, hv, hw]
      cases hs : S e.f0 <;> cases ht : T e.f0 <;> simp_all
    · rw [if_neg a, if_neg a, if_neg b, if_neg b]
      exact Int.le_refl _
theorem Burn.meets {n : Nat} {es : List E} (hes : ∀ e ∈ es, EOk n e) {d : Int → Int} {q : Int} (hq : 0 ≤ q ∧ q < n) {b : List Int} (h : Burn n es d q b) {S : Int → Bool} (hS : S q = false) : (∀ v ∈ b, S v = false) ∨ ∃ v : Int, 0 ≤ v ∧ v < n ∧ S v = true ∧ d v < lap es (ind S) v := by
  induction h with
  | start => exact .inl (fun v hv => by rw [List.mem_singleton.1 hv]; exact hS)
  | @step b v hb h0 h1 hv hlt ih =>
    rcases ih with ih | ih
    · by_cases hx : S v = true
      · right
        refine ⟨v, h0, h1, hx, ?_⟩
        rw [burnSum_lap hes (hb.ok hq).1 hv] at hlt
        have := lap_ind_mono (es := es) (S := S) (T := fun x => decide (x ∉ b)) hx (by simpa using hv) (fun x hx => by
          simp only [decide_eq_true_eq]
          intro hm
          rw [ih x hm] at hx
          cases hx)
        omega
      · left
        intro x hm
        rcases List.mem_append.1 hm with hm | hm
        · exact ih x hm
        · rw [List.mem_singleton.1 hm]
          simpa using hx
    · exact .inr ih
/-- All burn: the divisor is reduced. -/
theorem Burn.red {n : Nat} {es : List E} (hes : ∀ e ∈ es, EOk n e) {d : Int → Int} {q : Int} (hq : 0 ≤ q ∧ q < n) {b : List Int} (h : Burn n es d q b) (hl : b.length = n) (hd : ∀ v : Int, 0 ≤ v → v < n → v ≠ q → 0 ≤ d v) : Red n es q d := by
  refine ⟨hd, fun S hS hx => ?_⟩
  rcases h.meets hes hq hS with hb | hb
  · exfalso
    obtain ⟨v, h0, h1, hv⟩ := hx
    have : v ∈ b := by
      apply Classical.byContradiction
      intro hn
      have := nodup_len n (v :: b) (List.nodup_cons.2 ⟨hn, (h.ok hq).1⟩) (fun x hx => by
        rcases List.mem_cons.1 hx with rfl | hx
        · exact ⟨h0, h1⟩
        · exact (h.ok hq).2.1 x hx)
      simp at this
      omega
    rw [hb v this] at hv
    cases hv
  · exact hb
theorem sumN_le_const {n : Nat} {f : Nat → Int} {c : Int} (h : ∀ i, i < n → f i ≤ c) : sumN n f ≤ n * c := by
  rw [← sumN_const]
  exact sumN_le h
theorem sumN_nonneg {n : Nat} {f : Nat → Int} (h : ∀ i, i < n → 0 ≤ f i) : 0 ≤ sumN n f := by
  have := sumN_le (n := n) (f := fun _ => 0) (g := f) h
  rw [sumN_zero] at this
  exact this
/-- Borrowing is toppling of what is missing. -/
def dual (es : List E) (d : Int → Int) (v : Int) : Int := val es v - 1 - d v
structure Sets (n : Nat) (es : List E) (q : Int) (d u : Int → Int) : Prop where
  pos : ∀ w, 0 ≤ u w
  at_q : u q = 0
  keeps : ∀ v : Int, 0 ≤ v → v < n → v ≠ q → 0 ≤ d v - lap es u v
theorem Sets.zero {n : Nat} {es : List E} {q : Int} {d : Int → Int} (h : ∀ v : Int, 0 ≤ v → v < n → v ≠ q → 0 ≤ d v) : Sets n es q d (fun _ => 0) where
  pos := fun _ => Int.le_refl _
  at_q := rfl
  keeps := fun v h0 h1 h2 => by
    rw [lap_const (c := 0) (fun _ _ => ⟨rfl, rfl⟩)]
    have := h v h0 h1 h2
    omega
/-- The first vertex from i on that burns, or -1. -/
def nextB (es : List E) (d : Int → Int) (b : List Int) : Nat → Nat → Int
  | 0, _ => -1
  | k + 1, i => if (i : Int) ∉ b ∧ d i < burnSum es b i then i else nextB es d b k (i + 1)
theorem nextB_ok (es : List E) (d : Int → Int) (b : List Int) : ∀ (k i : Nat), (nextB es d b k i = -1 ∧ ∀ j : Nat, i ≤ j → j < i + k → (j : Int) ∉ b → burnSum es b j ≤ d j) ∨ ((i : Int) ≤ nextB es d b k i ∧ nextB es d b k i < i + k ∧ nextB es d b k i ∉ b ∧ d (nextB es d b k i) < burnSum es b (nextB es d b k i))
  | 0, i => .inl ⟨rfl, fun j h0 h1 => by omega⟩
  | k + 1, i => by
    unfold nextB
    by_cases h : (i : Int) ∉ b ∧ d i < burnSum es b i
    · rw [if_pos h]
      exact .inr ⟨by omega, by omega, h.1, h.2⟩
    · rw [if_neg h]
      rcases nextB_ok es d b k (i + 1) with ⟨h1, h2⟩ | ⟨h1, h2, h3⟩
      · refine .inl ⟨h1, fun j h3 h4 h5 => ?_⟩
        by_cases e : j = i
        · subst e
          apply Classical.byContradiction
          intro hc
          exact h ⟨h5, by omega⟩
        · exact h2 j (by omega) (by omega) h5
      · exact .inr ⟨by omega, by omega, h3⟩
def burnW (n : Nat) (es : List E) (d : Int → Int) : Nat → List Int → List Int
  | 0, b => b
  | k + 1, b => if nextB es d b n 0 < 0 then b else burnW n es d k (b ++ [nextB es d b n 0])
def burnF (n : Nat) (es : List E) (d : Int → Int) (q : Int) : List Int := burnW n es d n [q]
def RedTo (n : Nat) (es : List E) (q : Int) (d x s : Int → Int) : Prop := Red n es q x ∧ s q = 0 ∧ ∀ v : Int, 0 ≤ v → v < n → x v = d v - lap es s v
end Go.Proofs.Ytjecgolakaiddaa.Cf
end

section
namespace Go.Proofs.Ytjecgolakaiddaa.Cf
set_option linter.unusedVariables false
set_option linter.unusedSimpArgs false
open Go.Proofs.YtjecgolakaiddaaW.PrintWords
theorem rd_set {x : List Int} {i : Int} (h0 : 0 ≤ i) (h1 : i < x.length) (y : Int) {w : Int} (hw : 0 ≤ w) : rd (x.set i.toNat y) w = if w = i then y else rd x w := by
  obtain ⟨a, rfl⟩ := Int.eq_ofNat_of_zero_le h0
  obtain ⟨b, rfl⟩ := Int.eq_ofNat_of_zero_le hw
  simp only [Int.ofNat_eq_natCast, Int.toNat_natCast, rd_nat, List.getD_eq_getElem?_getD] at *
  by_cases c : b = a
  · subst c
    rw [List.getElem?_set_self (by omega), if_pos rfl]
    rfl
  · rw [List.getElem?_set_ne (fun y => c y.symm), if_neg (by omega)]
/-- A list's numbers lie between -B and B. -/
def Bd (x : List Int) (B : Int) : Prop := ∀ w : Int, 0 ≤ w → w < x.length → -B ≤ rd x w ∧ rd x w ≤ B
theorem Bd.mono {x : List Int} {B B' : Int} (h : Bd x B) (hB : B ≤ B') : Bd x B' := fun w h0 h1 => by have := h w h0 h1; omega
/-- The list c tells s on the first n numbers. -/
def Rep (n : Nat) (c : List Int) (s : Int → Int) : Prop := c.length = n ∧ ∀ w : Int, 0 ≤ w → w < n → rd c w = s w
theorem Rep.ext {n : Nat} {c c' : List Int} {s : Int → Int} (h : Rep n c s) (h' : Rep n c' s) : c = c' := by
  apply List.ext_getElem (by rw [h.1, h'.1])
  intro i h1 h2
  have e := h.2 i (by omega) (by have := h.1; omega)
  have e' := h'.2 i (by omega) (by have := h.1; omega)
  rw [rd_get h1] at e
  rw [rd_get h2] at e'
  rw [e, e']
theorem Rep.congr {n : Nat} {c : List Int} {s t : Int → Int} (h : Rep n c s) (he : ∀ w : Int, 0 ≤ w → w < n → s w = t w) : Rep n c t := ⟨h.1, fun w h0 h1 => (h.2 w h0 h1).trans (he w h0 h1)⟩
theorem Rep.self {n : Nat} {c : List Int} (h : c.length = n) : Rep n c (rd c) := ⟨h, fun _ _ _ => rfl⟩
theorem Rep.set {n : Nat} {c : List Int} {s : Int → Int} (h : Rep n c s) {v : Int} (h0 : 0 ≤ v) (h1 : v < n) (y : Int) : Rep n (c.set v.toNat y) (fun w => if w = v then y else s w) := by
  refine ⟨by rw [List.length_set]; exact h.1, fun w w0 w1 => ?_⟩
  rw [rd_set h0 (by rw [h.1]; exact h1) y w0, h.2 w w0 w1]
theorem rd_replicate (n : Nat) (v : Int) : rd (List.replicate n (0 : Int)) v = 0 := by
  unfold rd
  rw [List.getD_eq_getElem?_getD]
  by_cases h : v.toNat < n
  · rw [List.getElem?_replicate_of_lt h]; rfl
  · rw [List.getElem?_eq_none (by simp; omega)]; rfl
theorem Rep.zero (n : Nat) : Rep n (List.replicate n (0 : Int)) (fun _ => 0) := ⟨by simp, fun w _ _ => rd_replicate n w⟩
/-- The list of a function's first n values. -/
def repL (n : Nat) (f : Int → Int) : List Int := (List.range n).map fun i : Nat => f (i : Int)
theorem repL_len (n : Nat) (f : Int → Int) : (repL n f).length = n := by simp [repL]
theorem repL_rep (n : Nat) (f : Int → Int) : Rep n (repL n f) f := by
  refine ⟨by simp [repL], fun w h0 h1 => ?_⟩
  obtain ⟨a, rfl⟩ := Int.eq_ofNat_of_zero_le h0
  rw [rd_get (by simp [repL]; omega)]
  simp [repL]
theorem Rep.eq {n : Nat} {c : List Int} {s : Int → Int} (h : Rep n c s) : c = repL n s := h.ext (repL_rep n s)
theorem Rep.bd {n : Nat} {c : List Int} {s : Int → Int} {B : Int} (h : Rep n c s) (hb : ∀ w : Int, 0 ≤ w → w < n → -B ≤ s w ∧ s w ≤ B) : Bd c B := fun w h0 h1 => by
  rw [h.2 w h0 (by have := h.1; omega)]
  exact hb w h0 (by have := h.1; omega)
def Reduced (n : Nat) (es : List E) (q : Int) (d : List Int) (r : List Int × List Int) : Prop := r.1.length = n ∧ r.2.length = n ∧ RedTo n es q (rd d) (rd r.1) (rd r.2)
/-- The first vertex in debt, from one on; or -1. -/
def debtF (q : Int) (p : List Int) : Nat → Nat → Int
  | 0, _ => -1
  | d + 1, i => if (i : Int) = q then debtF q p d (i + 1) else if rd p i < 0 then i else debtF q p d (i + 1)
/-- The edges to what burns, counted over all vertices. -/
theorem sum_pick (f : Int → Int) (n : Nat) : ∀ (b : List Int), b.Nodup → (∀ v ∈ b, 0 ≤ v ∧ v < n) → sumN n (fun w => if (w : Int) ∈ b then f w else 0) = (b.map f).sum
  | [], _, _ => by simp [sumN_zero]
  | a :: r, hb, hr => by
    have ha := hr a List.mem_cons_self
    rw [List.map_cons, List.sum_cons, ← sum_pick f n r (List.nodup_cons.1 hb).2 (fun v hv => hr v (List.mem_cons_of_mem _ hv)), ← sumN_one (n := n) a.toNat (by omega) (f a), ← sumN_add]
    apply sumN_congr
    intro i hi
    by_cases e : i = a.toNat
    · have e' : (i : Int) = a := by omega
      rw [if_pos e, e', if_pos List.mem_cons_self, if_neg (List.nodup_cons.1 hb).1]
      omega
    · have e' : (i : Int) ≠ a := by omega
      rw [if_neg e]
      simp [e']
end Go.Proofs.Ytjecgolakaiddaa.Cf
end

section
namespace Go.Proofs.Ytjecgolakaiddaa.P
open Go.RowKit Go.Proofs.YtjecgolakaiddaaW.PrintWords Go.Proofs.YtjecgolakaiddaaW.PrintLast Go.Proofs.YtjecgolakaiddaaW.PrintMore
attribute [local go_sem] max2_int min2_int max_two min_two max_three min_three max_four min_four
set_option linter.unusedVariables false
set_option linter.unusedSimpArgs false
def spec_l04Fire.l0 : Nat → List Int → List Int → List (S70) → Int → Int → Option (List Int)
  | 0, _, _, _, _, _ => none
  | k + 1, x2, x7, x14, x15, x16 => if x16 < x15 then (if 0 ≤ x16 then (if x16 < (x14.length : Int) then (if 0 ≤ ((rd_T70 x14 x16).f0) then (if ((rd_T70 x14 x16).f0) < (x7.length : Int) then (if ((rd_T70 x14 x16).f0) < (x2.length : Int) then (if 0 ≤ ((rd_T70 x14 x16).f1) then (if ((rd_T70 x14 x16).f1) < (x2.length : Int) then ((some (x7.set (((rd_T70 x14 x16).f0) : Int).toNat (wrap64 ((wrap64 ((rd x7 ((rd_T70 x14 x16).f0)) - (rd x2 ((rd_T70 x14 x16).f0)))) + (rd x2 ((rd_T70 x14 x16).f1)))) : List Int)).bind fun y113 => (if ((rd_T70 x14 x16).f1) < (x7.length : Int) then (spec_l04Fire.l0 k x2 (y113.set (((rd_T70 x14 x16).f1) : Int).toNat (wrap64 ((wrap64 ((rd y113 ((rd_T70 x14 x16).f1)) - (rd x2 ((rd_T70 x14 x16).f1)))) + (rd x2 ((rd_T70 x14 x16).f0))))) x14 x15 (wrap64 (x16 + 1))) else (none))) else (none)) else (none)) else (none)) else (none)) else (none)) else (none)) else (none)) else (some x7)
def spec_l04Fire.f (k : Nat) (a0_0 : Int) (l0_1 : List (S70)) (l1 : List Int) (l2 : List Int) : Option (List Int) := (some (([] : List Int) : List Int)).bind fun y102 => (if y102.length + l1.length < 17592186044416 then (spec_l04Fire.l0 k l2 (y102 ++ l1) l0_1 (l0_1.length : Int) 0) else (none))
theorem spec_l04Fire.mono_l : ∀ k, (∀ y0 y1 y2 y3 y4, LeO (spec_l04Fire.l0 k y0 y1 y2 y3 y4) (spec_l04Fire.l0 (k + 1) y0 y1 y2 y3 y4))
  | 0 => fun _ _ _ _ _ r h => by simp [spec_l04Fire.l0] at h
  | k + 1 => by
    have ih0 := spec_l04Fire.mono_l k
    · intro y0 y1 y2 y3 y4
      unfold spec_l04Fire.l0
      exact zm0
theorem spec_l04Fire.mono : ∀ a0 a1 a2 a3 k, LeO (spec_l04Fire.f k a0 a1 a2 a3) (spec_l04Fire.f (k + 1) a0 a1 a2 a3) := by
  intro a0 a1 a2 a3 k; have ih0 := spec_l04Fire.mono_l k; unfold spec_l04Fire.f; exact zm0
def impl_fire.l0 : Nat → List Int → Int → Int → List (S70) → Int → Int → Option (List Int)
  | 0, _, _, _, _, _, _ => none
  | k + 1, x1, x2, x3, x11, x12, x13 => if x13 < x12 then (if 0 ≤ x13 then (if x13 < (x11.length : Int) then (if x2 = ((rd_T70 x11 x13).f0) then (if 0 ≤ x2 then (if x2 < (x1.length : Int) then ((some (x1.set (x2 : Int).toNat (wrap64 ((rd x1 x2) - x3)) : List Int)).bind fun y105 => (if 0 ≤ ((rd_T70 x11 x13).f1) then (if ((rd_T70 x11 x13).f1) < (x1.length : Int) then (impl_fire.l0 k (y105.set (((rd_T70 x11 x13).f1) : Int).toNat (wrap64 ((rd y105 ((rd_T70 x11 x13).f1)) + x3))) x2 x3 x11 x12 (wrap64 (x13 + 1))) else (none)) else (none))) else (none)) else (none)) else (if x2 = ((rd_T70 x11 x13).f1) then (if 0 ≤ x2 then (if x2 < (x1.length : Int) then ((some (x1.set (x2 : Int).toNat (wrap64 ((rd x1 x2) - x3)) : List Int)).bind fun y109 => (if 0 ≤ ((rd_T70 x11 x13).f0) then (if ((rd_T70 x11 x13).f0) < (x1.length : Int) then (impl_fire.l0 k (y109.set (((rd_T70 x11 x13).f0) : Int).toNat (wrap64 ((rd y109 ((rd_T70 x11 x13).f0)) + x3))) x2 x3 x11 x12 (wrap64 (x13 + 1))) else (none)) else (none))) else (none)) else (none)) else (impl_fire.l0 k x1 x2 x3 x11 x12 (wrap64 (x13 + 1))))) else (none)) else (none)) else (some x1)
def impl_fire.f (k : Nat) (a0_0 : Int) (l0_1 : List (S70)) (l1 : List Int) (a2 : Int) (a3 : Int) : Option (List Int) := impl_fire.l0 k l1 a2 a3 l0_1 (l0_1.length : Int) 0
theorem impl_fire.mono_l : ∀ k, (∀ y0 y1 y2 y3 y4 y5, LeO (impl_fire.l0 k y0 y1 y2 y3 y4 y5) (impl_fire.l0 (k + 1) y0 y1 y2 y3 y4 y5))
  | 0 => fun _ _ _ _ _ _ r h => by simp [impl_fire.l0] at h
  | k + 1 => by
    have ih0 := impl_fire.mono_l k
    · intro y0 y1 y2 y3 y4 y5
      unfold impl_fire.l0
      exact zm0
theorem impl_fire.mono : ∀ a0 a1 a2 a3 a4 k, LeO (impl_fire.f k a0 a1 a2 a3 a4) (impl_fire.f (k + 1) a0 a1 a2 a3 a4) := by
  intro a0 a1 a2 a3 a4 k; have ih0 := impl_fire.mono_l k; unfold impl_fire.f; exact zm0
mutual
def spec_RotorsOk.j0 : Nat → List Int → Int → Bool → Int → List (S70) → Option (Bool)
  | 0, _, _, _, _, _ => none
  | k + 1, x1, x2, x33, x102000, x102001 => if x33 = true then (some false) else (spec_RotorsOk.l0 k x2 x1 (x1.length : Int) 0 x102000 x102001)
def spec_RotorsOk.l0 : Nat → Int → List Int → Int → Int → Int → List (S70) → Option (Bool)
  | 0, _, _, _, _, _, _ => none
  | k + 1, x2, x34, x35, x36, x102000, x102001 => if x36 < x35 then (if 0 ≤ x36 then (if x36 < (x34.length : Int) then (if x36 = x2 then (spec_RotorsOk.l0 k x2 x34 x35 (wrap64 (x36 + 1)) x102000 x102001) else ((spec_l01In.f (rd x34 x36) 0 (wrap64 ((x102001.length : Int) - 1))).bind fun t106 => (if t106 = true then (if 0 ≤ (rd x34 x36) then (if (rd x34 x36) < (x102001.length : Int) then (if ((rd_T70 x102001 (rd x34 x36)).f0) = x36 then (spec_RotorsOk.l0 k x2 x34 x35 (wrap64 (x36 + 1)) x102000 x102001) else (if ((rd_T70 x102001 (rd x34 x36)).f1) = x36 then (spec_RotorsOk.l0 k x2 x34 x35 (wrap64 (x36 + 1)) x102000 x102001) else (some false))) else (none)) else (none)) else (some false)))) else (none)) else (none)) else (some true)
end
def spec_RotorsOk.f (k : Nat) (a0_0 : Int) (l0_1 : List (S70)) (l1 : List Int) (a2 : Int) : Option (Bool) := (spec_GraphOk.f k a0_0 l0_1).bind fun t102 => (if t102 = true then ((spec_l01In.f a2 0 (wrap64 (a0_0 - 1))).bind fun t103 => (if t103 = true then (if (l1.length : Int) = a0_0 then (if 0 ≤ a2 then (if a2 < (l1.length : Int) then (spec_RotorsOk.j0 k l1 a2 ((rd l1 a2) != (-1)) a0_0 l0_1) else (none)) else (none)) else (spec_RotorsOk.j0 k l1 a2 true a0_0 l0_1)) else (spec_RotorsOk.j0 k l1 a2 true a0_0 l0_1))) else (spec_RotorsOk.j0 k l1 a2 true a0_0 l0_1))
theorem spec_RotorsOk.mono_l : ∀ k, (∀ y0 y1 y2 y3 y4, LeO (spec_RotorsOk.j0 k y0 y1 y2 y3 y4) (spec_RotorsOk.j0 (k + 1) y0 y1 y2 y3 y4)) ∧ (∀ y0 y1 y2 y3 y4 y5, LeO (spec_RotorsOk.l0 k y0 y1 y2 y3 y4 y5) (spec_RotorsOk.l0 (k + 1) y0 y1 y2 y3 y4 y5))
  | 0 => ⟨fun _ _ _ _ _ r h => by simp [spec_RotorsOk.j0] at h, fun _ _ _ _ _ _ r h => by simp [spec_RotorsOk.l0] at h⟩
  | k + 1 => by
    obtain ⟨ih0, ih1⟩ := spec_RotorsOk.mono_l k
    refine ⟨?_, ?_⟩
    · intro y0 y1 y2 y3 y4
      unfold spec_RotorsOk.j0
      exact zm6
    · intro y0 y1 y2 y3 y4 y5
      unfold spec_RotorsOk.l0
      exact zm6
theorem spec_RotorsOk.mono : ∀ a0 a1 a2 a3 k, LeO (spec_RotorsOk.f k a0 a1 a2 a3) (spec_RotorsOk.f (k + 1) a0 a1 a2 a3) := by
  intro a0 a1 a2 a3 k; obtain ⟨ih0, ih1⟩ := spec_RotorsOk.mono_l k; unfold spec_RotorsOk.f; exact zm6
end Go.Proofs.Ytjecgolakaiddaa.P
end

section
namespace Go.Proofs.Ytjecgolakaiddaa.P
open Go.RowKit Go.Proofs.YtjecgolakaiddaaW.PrintWords Go.Proofs.YtjecgolakaiddaaW.PrintLast Go.Proofs.YtjecgolakaiddaaW.PrintMore
attribute [local go_sem] max2_int min2_int max_two min_two max_three min_three max_four min_four
set_option linter.unusedVariables false
set_option linter.unusedSimpArgs false
mutual
def impl_RotorsOk.j0 : Nat → List Int → Int → Bool → Int → List (S70) → Option (Bool)
  | 0, _, _, _, _, _ => none
  | k + 1, x1, x2, x26, x102000, x102001 => if x26 = true then (some false) else (impl_RotorsOk.l0 k x2 x1 (x1.length : Int) 0 x102000 x102001)
def impl_RotorsOk.l0 : Nat → Int → List Int → Int → Int → Int → List (S70) → Option (Bool)
  | 0, _, _, _, _, _, _ => none
  | k + 1, x2, x27, x28, x29, x102000, x102001 => if x29 < x28 then (if 0 ≤ x29 then (if x29 < (x27.length : Int) then (if x29 = x2 then (impl_RotorsOk.l0 k x2 x27 x28 (wrap64 (x29 + 1)) x102000 x102001) else ((impl_isAt.f x102000 x102001 (rd x27 x29) x29).bind fun t105 => (if t105 = true then (impl_RotorsOk.l0 k x2 x27 x28 (wrap64 (x29 + 1)) x102000 x102001) else (some false)))) else (none)) else (none)) else (some true)
end
def impl_RotorsOk.f (k : Nat) (a0_0 : Int) (l0_1 : List (S70)) (l1 : List Int) (a2 : Int) : Option (Bool) := (impl_isVertex.f a0_0 l0_1 a2).bind fun t102 => (if t102 = true then (if (l1.length : Int) = a0_0 then (if 0 ≤ a2 then (if a2 < (l1.length : Int) then (impl_RotorsOk.j0 k l1 a2 ((rd l1 a2) != (-1)) a0_0 l0_1) else (none)) else (none)) else (impl_RotorsOk.j0 k l1 a2 true a0_0 l0_1)) else (impl_RotorsOk.j0 k l1 a2 true a0_0 l0_1))
theorem impl_RotorsOk.mono_l : ∀ k, (∀ y0 y1 y2 y3 y4, LeO (impl_RotorsOk.j0 k y0 y1 y2 y3 y4) (impl_RotorsOk.j0 (k + 1) y0 y1 y2 y3 y4)) ∧ (∀ y0 y1 y2 y3 y4 y5, LeO (impl_RotorsOk.l0 k y0 y1 y2 y3 y4 y5) (impl_RotorsOk.l0 (k + 1) y0 y1 y2 y3 y4 y5))
  | 0 => ⟨fun _ _ _ _ _ r h => by simp [impl_RotorsOk.j0] at h, fun _ _ _ _ _ _ r h => by simp [impl_RotorsOk.l0] at h⟩
  | k + 1 => by
    obtain ⟨ih0, ih1⟩ := impl_RotorsOk.mono_l k
    refine ⟨?_, ?_⟩
    · intro y0 y1 y2 y3 y4
      unfold impl_RotorsOk.j0
      exact zm1
    · intro y0 y1 y2 y3 y4 y5
      unfold impl_RotorsOk.l0
      exact zm1
theorem impl_RotorsOk.mono : ∀ a0 a1 a2 a3 k, LeO (impl_RotorsOk.f k a0 a1 a2 a3) (impl_RotorsOk.f (k + 1) a0 a1 a2 a3) := by
  intro a0 a1 a2 a3 k; obtain ⟨ih0, ih1⟩ := impl_RotorsOk.mono_l k; unfold impl_RotorsOk.f; exact zm1
end Go.Proofs.Ytjecgolakaiddaa.P
end

section
namespace Go.Proofs.Ytjecgolakaiddaa.P
open Go.RowKit Go.Proofs.YtjecgolakaiddaaW.PrintWords Go.Proofs.YtjecgolakaiddaaW.PrintLast Go.Proofs.YtjecgolakaiddaaW.PrintMore
attribute [local go_sem] max2_int min2_int max_two min_two max_three min_three max_four min_four
set_option linter.unusedVariables false
set_option linter.unusedSimpArgs false
def spec_l15Next.l0 : Nat → Int → Int → Int → Int → Int → List (S70) → Option (Int)
  | 0, _, _, _, _, _, _ => none
  | k + 1, x1, x2, x7, x8, x102000, x102001 => if x8 < x7 then (if x7 = 0 then (none) else (if 0 ≤ (Int.tmod (wrap64 (x2 + x8)) x7) then (if (Int.tmod (wrap64 (x2 + x8)) x7) < (x102001.length : Int) then (if ((rd_T70 x102001 (Int.tmod (wrap64 (x2 + x8)) x7)).f0) = x1 then (some (Int.tmod (wrap64 (x2 + x8)) x7)) else (if ((rd_T70 x102001 (Int.tmod (wrap64 (x2 + x8)) x7)).f1) = x1 then (some (Int.tmod (wrap64 (x2 + x8)) x7)) else (spec_l15Next.l0 k x1 x2 x7 (wrap64 (x8 + 1)) x102000 x102001))) else (none)) else (none))) else (some x2)
def spec_l15Next.f (k : Nat) (a0_0 : Int) (l0_1 : List (S70)) (a1 : Int) (a2 : Int) : Option (Int) := spec_l15Next.l0 k a1 a2 (l0_1.length : Int) 1 a0_0 l0_1
theorem spec_l15Next.mono_l : ∀ k, (∀ y0 y1 y2 y3 y4 y5, LeO (spec_l15Next.l0 k y0 y1 y2 y3 y4 y5) (spec_l15Next.l0 (k + 1) y0 y1 y2 y3 y4 y5))
  | 0 => fun _ _ _ _ _ _ r h => by simp [spec_l15Next.l0] at h
  | k + 1 => by
    have ih0 := spec_l15Next.mono_l k
    · intro y0 y1 y2 y3 y4 y5
      unfold spec_l15Next.l0
      exact zm0
theorem spec_l15Next.mono : ∀ a0 a1 a2 a3 k, LeO (spec_l15Next.f k a0 a1 a2 a3) (spec_l15Next.f (k + 1) a0 a1 a2 a3) := by
  intro a0 a1 a2 a3 k; have ih0 := spec_l15Next.mono_l k; unfold spec_l15Next.f; exact zm0
mutual
def impl_NextRotor.j0 : Nat → Int → Int → Bool → Int → List (S70) → Option (Int)
  | 0, _, _, _, _, _ => none
  | k + 1, x1, x2, x19, x102000, x102001 => if x19 = true then (some (-1)) else (if (x102001.length : Int) = 0 then (none) else (impl_NextRotor.l0 k x1 (x102001.length : Int) (Int.tmod (wrap64 (x2 + 1)) (x102001.length : Int)) x102000 x102001))
def impl_NextRotor.l0 : Nat → Int → Int → Int → Int → List (S70) → Option (Int)
  | 0, _, _, _, _, _ => none
  | k + 1, x1, x7, x8, x102000, x102001 => (impl_isAt.f x102000 x102001 x8 x1).bind fun t104 => (if t104 = true then (some x8) else (if x7 = 0 then (none) else (impl_NextRotor.l0 k x1 x7 (Int.tmod (wrap64 (x8 + 1)) x7) x102000 x102001)))
end
def impl_NextRotor.f (k : Nat) (a0_0 : Int) (l0_1 : List (S70)) (a1 : Int) (a2 : Int) : Option (Int) := (impl_isVertex.f a0_0 l0_1 a1).bind fun t102 => (if t102 = true then ((impl_isAt.f a0_0 l0_1 a2 a1).bind fun t103 => (impl_NextRotor.j0 k a1 a2 (!t103) a0_0 l0_1)) else (impl_NextRotor.j0 k a1 a2 true a0_0 l0_1))
theorem impl_NextRotor.mono_l : ∀ k, (∀ y0 y1 y2 y3 y4, LeO (impl_NextRotor.j0 k y0 y1 y2 y3 y4) (impl_NextRotor.j0 (k + 1) y0 y1 y2 y3 y4)) ∧ (∀ y0 y1 y2 y3 y4, LeO (impl_NextRotor.l0 k y0 y1 y2 y3 y4) (impl_NextRotor.l0 (k + 1) y0 y1 y2 y3 y4))
  | 0 => ⟨fun _ _ _ _ _ r h => by simp [impl_NextRotor.j0] at h, fun _ _ _ _ _ r h => by simp [impl_NextRotor.l0] at h⟩
  | k + 1 => by
    obtain ⟨ih0, ih1⟩ := impl_NextRotor.mono_l k
    refine ⟨?_, ?_⟩
    · intro y0 y1 y2 y3 y4
      unfold impl_NextRotor.j0
      exact zm1
    · intro y0 y1 y2 y3 y4
      unfold impl_NextRotor.l0
      exact zm1
theorem impl_NextRotor.mono : ∀ a0 a1 a2 a3 k, LeO (impl_NextRotor.f k a0 a1 a2 a3) (impl_NextRotor.f (k + 1) a0 a1 a2 a3) := by
  intro a0 a1 a2 a3 k; obtain ⟨ih0, ih1⟩ := impl_NextRotor.mono_l k; unfold impl_NextRotor.f; exact zm1
end Go.Proofs.Ytjecgolakaiddaa.P
end

section
namespace Go.Proofs.Ytjecgolakaiddaa.P
open Go.RowKit Go.Proofs.YtjecgolakaiddaaW.PrintWords Go.Proofs.YtjecgolakaiddaaW.PrintLast Go.Proofs.YtjecgolakaiddaaW.PrintMore
attribute [local go_sem] max2_int min2_int max_two min_two max_three min_three max_four min_four
set_option linter.unusedVariables false
set_option linter.unusedSimpArgs false
def spec_l15Other.f (a0_0 : Int) (a0_1 : Int) (a1 : Int) : Option (Int) := some (wrap64 ((wrap64 (a0_0 + a0_1)) - a1))
def spec_StepWalker.j0 : Nat → List Int → Int → Bool → Int → List (S70) → Option (List Int × Int × Bool)
  | 0, _, _, _, _, _ => none
  | k + 1, x1, x3, x29, x102000, x102001 => if x29 = true then (some (([] : List Int), 0, false)) else ((some (([] : List Int) : List Int)).bind fun y104 => (if y104.length + x1.length < 17592186044416 then ((some (y104 ++ x1 : List Int)).bind fun y107 => (if 0 ≤ x3 then (if x3 < (x1.length : Int) then ((spec_l15Next.f k x102000 x102001 x3 (rd x1 x3)).bind fun t111 => (if x3 < (y107.length : Int) then ((some (y107.set (x3 : Int).toNat t111 : List Int)).bind fun y112 => (if 0 ≤ (rd y112 x3) then (if (rd y112 x3) < (x102001.length : Int) then ((spec_l15Other.f ((rd_T70 x102001 (rd y112 x3)).f0) ((rd_T70 x102001 (rd y112 x3)).f1) x3).bind fun t115 => (some (y112, t115, true))) else (none)) else (none))) else (none))) else (none)) else (none))) else (none)))
def spec_StepWalker.f (k : Nat) (a0_0 : Int) (l0_1 : List (S70)) (l1 : List Int) (a2 : Int) (a3 : Int) : Option (List Int × Int × Bool) := (spec_RotorsOk.f k a0_0 l0_1 l1 a2).bind fun t102 => (if t102 = true then (if a3 = a2 then (spec_StepWalker.j0 k l1 a3 true a0_0 l0_1) else ((spec_l01In.f a3 0 (wrap64 (a0_0 - 1))).bind fun t103 => (spec_StepWalker.j0 k l1 a3 (!t103) a0_0 l0_1))) else (spec_StepWalker.j0 k l1 a3 true a0_0 l0_1))
theorem spec_StepWalker.mono_l : ∀ k, (∀ y0 y1 y2 y3 y4, LeO (spec_StepWalker.j0 k y0 y1 y2 y3 y4) (spec_StepWalker.j0 (k + 1) y0 y1 y2 y3 y4))
  | 0 => fun _ _ _ _ _ r h => by simp [spec_StepWalker.j0] at h
  | k + 1 => by
    have ih0 := spec_StepWalker.mono_l k
    · intro y0 y1 y2 y3 y4
      unfold spec_StepWalker.j0
      exact zm23
theorem spec_StepWalker.mono : ∀ a0 a1 a2 a3 a4 k, LeO (spec_StepWalker.f k a0 a1 a2 a3 a4) (spec_StepWalker.f (k + 1) a0 a1 a2 a3 a4) := by
  intro a0 a1 a2 a3 a4 k; have ih0 := spec_StepWalker.mono_l k; unfold spec_StepWalker.f; exact zm23
def impl_across.f (a0_0 : Int) (l0_1 : List (S70)) (a1 : Int) (a2 : Int) : Option (Int) := if 0 ≤ a1 then (if a1 < (l0_1.length : Int) then (some (wrap64 ((wrap64 (((rd_T70 l0_1 a1).f0) + ((rd_T70 l0_1 a1).f1))) - a2))) else (none)) else (none)
def impl_StepWalker.j0 : Nat → List Int → Int → Bool → Int → List (S70) → Option (List Int × Int × Bool)
  | 0, _, _, _, _, _ => none
  | k + 1, x1, x3, x29, x102000, x102001 => if x29 = true then (some (([] : List Int), 0, false)) else ((impl_copyInts.f x1).bind fun t104 => (if 0 ≤ x3 then (if x3 < (x1.length : Int) then ((impl_NextRotor.f k x102000 x102001 x3 (rd x1 x3)).bind fun t108 => (if x3 < (t104.length : Int) then ((some (t104.set (x3 : Int).toNat t108 : List Int)).bind fun y109 => ((impl_across.f x102000 x102001 (rd y109 x3) x3).bind fun t111 => (some (y109, t111, true)))) else (none))) else (none)) else (none)))
def impl_StepWalker.f (k : Nat) (a0_0 : Int) (l0_1 : List (S70)) (l1 : List Int) (a2 : Int) (a3 : Int) : Option (List Int × Int × Bool) := (impl_RotorsOk.f k a0_0 l0_1 l1 a2).bind fun t102 => (if t102 = true then (if a3 = a2 then (impl_StepWalker.j0 k l1 a3 true a0_0 l0_1) else ((impl_within.f a3 0 (wrap64 (a0_0 - 1))).bind fun t103 => (impl_StepWalker.j0 k l1 a3 (!t103) a0_0 l0_1))) else (impl_StepWalker.j0 k l1 a3 true a0_0 l0_1))
theorem impl_StepWalker.mono_l : ∀ k, (∀ y0 y1 y2 y3 y4, LeO (impl_StepWalker.j0 k y0 y1 y2 y3 y4) (impl_StepWalker.j0 (k + 1) y0 y1 y2 y3 y4))
  | 0 => fun _ _ _ _ _ r h => by simp [impl_StepWalker.j0] at h
  | k + 1 => by
    have ih0 := impl_StepWalker.mono_l k
    · intro y0 y1 y2 y3 y4
      unfold impl_StepWalker.j0
      exact zm21
theorem impl_StepWalker.mono : ∀ a0 a1 a2 a3 a4 k, LeO (impl_StepWalker.f k a0 a1 a2 a3 a4) (impl_StepWalker.f (k + 1) a0 a1 a2 a3 a4) := by
  intro a0 a1 a2 a3 a4 k; have ih0 := impl_StepWalker.mono_l k; unfold impl_StepWalker.f; exact zm21
def spec_l15Walk.l0 : Nat → Int → Int → List Int → Int → Int → List (S70) → Option (List Int × Int × Bool)
  | 0, _, _, _, _, _, _ => none
  | k + 1, x2, x3, x11, x12, x102000, x102001 => if x12 ≤ 2000 then (if x3 = x2 then (some (x11, x12, true)) else (if 0 ≤ x3 then (if x3 < (x11.length : Int) then ((spec_l15Next.f k x102000 x102001 x3 (rd x11 x3)).bind fun t109 => ((some (x11.set (x3 : Int).toNat t109 : List Int)).bind fun y110 => (if 0 ≤ (rd y110 x3) then (if (rd y110 x3) < (x102001.length : Int) then ((spec_l15Other.f ((rd_T70 x102001 (rd y110 x3)).f0) ((rd_T70 x102001 (rd y110 x3)).f1) x3).bind fun t113 => (spec_l15Walk.l0 k x2 t113 y110 (wrap64 (x12 + 1)) x102000 x102001)) else (none)) else (none)))) else (none)) else (none))) else (some (([] : List Int), 0, false))
def spec_l15Walk.f (k : Nat) (a0_0 : Int) (l0_1 : List (S70)) (l1 : List Int) (a2 : Int) (a3 : Int) : Option (List Int × Int × Bool) := (some (([] : List Int) : List Int)).bind fun y102 => (if y102.length + l1.length < 17592186044416 then (spec_l15Walk.l0 k a2 a3 (y102 ++ l1) 0 a0_0 l0_1) else (none))
theorem spec_l15Walk.mono_l : ∀ k, (∀ y0 y1 y2 y3 y4 y5, LeO (spec_l15Walk.l0 k y0 y1 y2 y3 y4 y5) (spec_l15Walk.l0 (k + 1) y0 y1 y2 y3 y4 y5))
  | 0 => fun _ _ _ _ _ _ r h => by simp [spec_l15Walk.l0] at h
  | k + 1 => by
    have ih0 := spec_l15Walk.mono_l k
    · intro y0 y1 y2 y3 y4 y5
      unfold spec_l15Walk.l0
      exact zm28
theorem spec_l15Walk.mono : ∀ a0 a1 a2 a3 a4 k, LeO (spec_l15Walk.f k a0 a1 a2 a3 a4) (spec_l15Walk.f (k + 1) a0 a1 a2 a3 a4) := by
  intro a0 a1 a2 a3 a4 k; have ih0 := spec_l15Walk.mono_l k; unfold spec_l15Walk.f; exact zm28
def spec_WalkToSink.f (k : Nat) (a0_0 : Int) (l0_1 : List (S70)) (l1 : List Int) (a2 : Int) (a3 : Int) : Option (List Int × Int × Bool) := (spec_RotorsOk.f k a0_0 l0_1 l1 a2).bind fun t102 => (if t102 = true then ((spec_l01In.f a3 0 (wrap64 (a0_0 - 1))).bind fun t103 => (if t103 = true then ((spec_l15Walk.f k a0_0 l0_1 l1 a2 a3).bind fun bt104 => (some (bt104.1, bt104.2.1, bt104.2.2))) else (some (([] : List Int), 0, false)))) else (some (([] : List Int), 0, false)))
theorem spec_WalkToSink.mono : ∀ a0 a1 a2 a3 a4 k, LeO (spec_WalkToSink.f k a0 a1 a2 a3 a4) (spec_WalkToSink.f (k + 1) a0 a1 a2 a3 a4) := by
  intro a0 a1 a2 a3 a4 k; unfold spec_WalkToSink.f; repeat' first | (with_reducible apply spec_RotorsOk.mono) | (with_reducible apply spec_l15Walk.mono) | (with_reducible exact LeO.refl _) | (with_reducible exact LeO.none _) | (with_reducible refine LeO.ite ?_ ?_) | (with_reducible refine LeO.bind ?_ (fun _ => ?_)) | apply spec_RotorsOk.mono | apply spec_l15Walk.mono | exact LeO.none _ | refine LeO.ite ?_ ?_ | refine LeO.bind ?_ (fun _ => ?_)
mutual
def impl_WalkToSink.j0 : Nat → List Int → Int → Int → Bool → Int → List (S70) → Option (List Int × Int × Bool)
  | 0, _, _, _, _, _, _ => none
  | k + 1, x1, x2, x3, x25, x102000, x102001 => if x25 = true then (some (([] : List Int), 0, false)) else ((impl_copyInts.f x1).bind fun t104 => (impl_WalkToSink.l0 k x2 x3 t104 0 x102000 x102001))
def impl_WalkToSink.l0 : Nat → Int → Int → List Int → Int → Int → List (S70) → Option (List Int × Int × Bool)
  | 0, _, _, _, _, _, _ => none
  | k + 1, x2, x3, x11, x12, x102000, x102001 => if x3 = x2 then (some (x11, x12, true)) else (if x12 = 2000 then (some (([] : List Int), 0, false)) else (if 0 ≤ x3 then (if x3 < (x11.length : Int) then ((impl_NextRotor.f k x102000 x102001 x3 (rd x11 x3)).bind fun t108 => ((some (x11.set (x3 : Int).toNat t108 : List Int)).bind fun y109 => ((impl_across.f x102000 x102001 (rd y109 x3) x3).bind fun t111 => (impl_WalkToSink.l0 k x2 t111 y109 (wrap64 (x12 + 1)) x102000 x102001)))) else (none)) else (none)))
end
def impl_WalkToSink.f (k : Nat) (a0_0 : Int) (l0_1 : List (S70)) (l1 : List Int) (a2 : Int) (a3 : Int) : Option (List Int × Int × Bool) := (impl_RotorsOk.f k a0_0 l0_1 l1 a2).bind fun t102 => (if t102 = true then ((impl_within.f a3 0 (wrap64 (a0_0 - 1))).bind fun t103 => (impl_WalkToSink.j0 k l1 a2 a3 (!t103) a0_0 l0_1)) else (impl_WalkToSink.j0 k l1 a2 a3 true a0_0 l0_1))
theorem impl_WalkToSink.mono_l : ∀ k, (∀ y0 y1 y2 y3 y4 y5, LeO (impl_WalkToSink.j0 k y0 y1 y2 y3 y4 y5) (impl_WalkToSink.j0 (k + 1) y0 y1 y2 y3 y4 y5)) ∧ (∀ y0 y1 y2 y3 y4 y5, LeO (impl_WalkToSink.l0 k y0 y1 y2 y3 y4 y5) (impl_WalkToSink.l0 (k + 1) y0 y1 y2 y3 y4 y5))
  | 0 => ⟨fun _ _ _ _ _ _ r h => by simp [impl_WalkToSink.j0] at h, fun _ _ _ _ _ _ r h => by simp [impl_WalkToSink.l0] at h⟩
  | k + 1 => by
    obtain ⟨ih0, ih1⟩ := impl_WalkToSink.mono_l k
    refine ⟨?_, ?_⟩
    · intro y0 y1 y2 y3 y4 y5
      unfold impl_WalkToSink.j0
      exact zm10
    · intro y0 y1 y2 y3 y4 y5
      unfold impl_WalkToSink.l0
      exact zm10
theorem impl_WalkToSink.mono : ∀ a0 a1 a2 a3 a4 k, LeO (impl_WalkToSink.f k a0 a1 a2 a3 a4) (impl_WalkToSink.f (k + 1) a0 a1 a2 a3 a4) := by
  intro a0 a1 a2 a3 a4 k; obtain ⟨ih0, ih1⟩ := impl_WalkToSink.mono_l k; unfold impl_WalkToSink.f; exact zm10
end Go.Proofs.Ytjecgolakaiddaa.P
end

section
namespace Go.Proofs.Ytjecgolakaiddaa.P
open Go.RowKit Go.Proofs.YtjecgolakaiddaaW.PrintWords Go.Proofs.YtjecgolakaiddaaW.PrintLast Go.Proofs.YtjecgolakaiddaaW.PrintMore
attribute [local go_sem] max2_int min2_int max_two min_two max_three min_three max_four min_four
set_option linter.unusedVariables false
set_option linter.unusedSimpArgs false
mutual
def spec_IsTreeState.l0 : Nat → List Int → Int → Int → Int → List (S70) → Option (Bool)
  | 0, _, _, _, _, _ => none
  | k + 1, x1, x2, x7, x102000, x102001 => if x7 < x102000 then (spec_IsTreeState.l1 k x1 x2 x7 x7 0 x102000 x102001) else (some true)
def spec_IsTreeState.l1 : Nat → List Int → Int → Int → Int → Int → Int → List (S70) → Option (Bool)
  | 0, _, _, _, _, _, _, _ => none
  | k + 1, x1, x2, x7, x8, x9, x102000, x102001 => if x9 < x102000 then (if x8 = x2 then (spec_IsTreeState.l0 k x1 x2 (wrap64 (x7 + 1)) x102000 x102001) else (if 0 ≤ x8 then (if x8 < (x1.length : Int) then (if 0 ≤ (rd x1 x8) then (if (rd x1 x8) < (x102001.length : Int) then ((spec_l15Other.f ((rd_T70 x102001 (rd x1 x8)).f0) ((rd_T70 x102001 (rd x1 x8)).f1) x8).bind fun t105 => (spec_IsTreeState.l1 k x1 x2 x7 t105 (wrap64 (x9 + 1)) x102000 x102001)) else (none)) else (none)) else (none)) else (none))) else (if x8 = x2 then (spec_IsTreeState.l0 k x1 x2 (wrap64 (x7 + 1)) x102000 x102001) else (some false))
end
def spec_IsTreeState.f (k : Nat) (a0_0 : Int) (l0_1 : List (S70)) (l1 : List Int) (a2 : Int) : Option (Bool) := (spec_RotorsOk.f k a0_0 l0_1 l1 a2).bind fun t102 => (if t102 = true then (spec_IsTreeState.l0 k l1 a2 0 a0_0 l0_1) else (some false))
theorem spec_IsTreeState.mono_l : ∀ k, (∀ y0 y1 y2 y3 y4, LeO (spec_IsTreeState.l0 k y0 y1 y2 y3 y4) (spec_IsTreeState.l0 (k + 1) y0 y1 y2 y3 y4)) ∧ (∀ y0 y1 y2 y3 y4 y5 y6, LeO (spec_IsTreeState.l1 k y0 y1 y2 y3 y4 y5 y6) (spec_IsTreeState.l1 (k + 1) y0 y1 y2 y3 y4 y5 y6))
  | 0 => ⟨fun _ _ _ _ _ r h => by simp [spec_IsTreeState.l0] at h, fun _ _ _ _ _ _ _ r h => by simp [spec_IsTreeState.l1] at h⟩
  | k + 1 => by
    obtain ⟨ih0, ih1⟩ := spec_IsTreeState.mono_l k
    refine ⟨?_, ?_⟩
    · intro y0 y1 y2 y3 y4
      unfold spec_IsTreeState.l0
      exact zm12
    · intro y0 y1 y2 y3 y4 y5 y6
      unfold spec_IsTreeState.l1
      exact zm12
theorem spec_IsTreeState.mono : ∀ a0 a1 a2 a3 k, LeO (spec_IsTreeState.f k a0 a1 a2 a3) (spec_IsTreeState.f (k + 1) a0 a1 a2 a3) := by
  intro a0 a1 a2 a3 k; obtain ⟨ih0, ih1⟩ := spec_IsTreeState.mono_l k; unfold spec_IsTreeState.f; exact zm12
end Go.Proofs.Ytjecgolakaiddaa.P
end

section
namespace Go.Proofs.Ytjecgolakaiddaa.P
open Go.RowKit Go.Proofs.YtjecgolakaiddaaW.PrintWords Go.Proofs.YtjecgolakaiddaaW.PrintLast Go.Proofs.YtjecgolakaiddaaW.PrintMore
attribute [local go_sem] max2_int min2_int max_two min_two max_three min_three max_four min_four
set_option linter.unusedVariables false
set_option linter.unusedSimpArgs false
mutual
def impl_IsTreeState.l0 : Nat → List Int → Int → Int → Int → Int → List (S70) → Option (Bool)
  | 0, _, _, _, _, _, _ => none
  | k + 1, x1, x2, x16, x17, x102000, x102001 => if x17 < x16 then (impl_IsTreeState.l1 k x1 x2 x17 0 x16 x17 x102000 x102001) else (some true)
def impl_IsTreeState.l1 : Nat → List Int → Int → Int → Int → Int → Int → Int → List (S70) → Option (Bool)
  | 0, _, _, _, _, _, _, _, _ => none
  | k + 1, x1, x2, x8, x9, x16, x17, x102000, x102001 => if x9 < x102000 then (if x8 = x2 then (impl_IsTreeState.l0 k x1 x2 x16 (wrap64 (x17 + 1)) x102000 x102001) else (if 0 ≤ x8 then (if x8 < (x1.length : Int) then ((impl_across.f x102000 x102001 (rd x1 x8) x8).bind fun t104 => (impl_IsTreeState.l1 k x1 x2 t104 (wrap64 (x9 + 1)) x16 x17 x102000 x102001)) else (none)) else (none))) else (if x8 = x2 then (impl_IsTreeState.l0 k x1 x2 x16 (wrap64 (x17 + 1)) x102000 x102001) else (some false))
end
def impl_IsTreeState.f (k : Nat) (a0_0 : Int) (l0_1 : List (S70)) (l1 : List Int) (a2 : Int) : Option (Bool) := (impl_RotorsOk.f k a0_0 l0_1 l1 a2).bind fun t102 => (if t102 = true then (impl_IsTreeState.l0 k l1 a2 (l1.length : Int) 0 a0_0 l0_1) else (some false))
theorem impl_IsTreeState.mono_l : ∀ k, (∀ y0 y1 y2 y3 y4 y5, LeO (impl_IsTreeState.l0 k y0 y1 y2 y3 y4 y5) (impl_IsTreeState.l0 (k + 1) y0 y1 y2 y3 y4 y5)) ∧ (∀ y0 y1 y2 y3 y4 y5 y6 y7, LeO (impl_IsTreeState.l1 k y0 y1 y2 y3 y4 y5 y6 y7) (impl_IsTreeState.l1 (k + 1) y0 y1 y2 y3 y4 y5 y6 y7))
  | 0 => ⟨fun _ _ _ _ _ _ r h => by simp [impl_IsTreeState.l0] at h, fun _ _ _ _ _ _ _ _ r h => by simp [impl_IsTreeState.l1] at h⟩
  | k + 1 => by
    obtain ⟨ih0, ih1⟩ := impl_IsTreeState.mono_l k
    refine ⟨?_, ?_⟩
    · intro y0 y1 y2 y3 y4 y5
      unfold impl_IsTreeState.l0
      exact zm13
    · intro y0 y1 y2 y3 y4 y5 y6 y7
      unfold impl_IsTreeState.l1
      exact zm13
theorem impl_IsTreeState.mono : ∀ a0 a1 a2 a3 k, LeO (impl_IsTreeState.f k a0 a1 a2 a3) (impl_IsTreeState.f (k + 1) a0 a1 a2 a3) := by
  intro a0 a1 a2 a3 k; obtain ⟨ih0, ih1⟩ := impl_IsTreeState.mono_l k; unfold impl_IsTreeState.f; exact zm13
end Go.Proofs.Ytjecgolakaiddaa.P
end

section
namespace Go.Proofs.Ytjecgolakaiddaa.Cf
set_option linter.unusedVariables false
set_option linter.unusedSimpArgs false
open Go.RowKit Go.Proofs.YtjecgolakaiddaaW.PrintWords Go.Proofs.Ytjecgolakaiddaa.P
theorem copy_eq (l : List Int) (h : l.length ≤ 1048576) : impl_copyInts.f l = some l := by
  unfold impl_copyInts.f
  rw [if_pos (by simp; omega)]
  rfl
end Go.Proofs.Ytjecgolakaiddaa.Cf
end

section
namespace Go.Proofs.Ytjecgolakaiddaa.P
open Go.RowKit Go.Proofs.YtjecgolakaiddaaW.PrintWords Go.Proofs.YtjecgolakaiddaaW.PrintLast Go.Proofs.YtjecgolakaiddaaW.PrintMore
attribute [local go_sem] max2_int min2_int max_two min_two max_three min_three max_four min_four
set_option linter.unusedVariables false
set_option linter.unusedSimpArgs false
def spec_l10Topple.f (k : Nat) (a0_0 : Int) (l0_1 : List (S70)) (l1 : List Int) (a2 : Int) (a3 : Int) : Option (List Int) := if 0 ≤ a0_0 then (if (a0_0 : Int).toNat ≤ 35184372088832 then ((some (List.replicate (a0_0 : Int).toNat 0 : List Int)).bind fun y102 => (if 0 ≤ a3 then (if a3 < (y102.length : Int) then ((spec_l04Fire.f k a0_0 l0_1 l1 (y102.set (a3 : Int).toNat 1)).bind fun t106 => (if 0 ≤ a2 then (if a2 < (t106.length : Int) then (some (t106.set (a2 : Int).toNat 0)) else (none)) else (none))) else (none)) else (none))) else (none)) else (none)
theorem spec_l10Topple.mono : ∀ a0 a1 a2 a3 a4 k, LeO (spec_l10Topple.f k a0 a1 a2 a3 a4) (spec_l10Topple.f (k + 1) a0 a1 a2 a3 a4) := by
  intro a0 a1 a2 a3 a4 k; unfold spec_l10Topple.f; repeat' first | (with_reducible apply spec_l04Fire.mono) | (with_reducible exact LeO.refl _) | (with_reducible exact LeO.none _) | (with_reducible refine LeO.ite ?_ ?_) | (with_reducible refine LeO.bind ?_ (fun _ => ?_)) | apply spec_l04Fire.mono | exact LeO.none _ | refine LeO.ite ?_ ?_ | refine LeO.bind ?_ (fun _ => ?_)
def spec_Topple.f (k : Nat) (a0_0 : Int) (l0_1 : List (S70)) (l1 : List Int) (a2 : Int) (a3 : Int) : Option (List Int × Bool) := (spec_PileOk.f k a0_0 l0_1 l1 a2).bind fun t102 => (if t102 = true then (if a3 = a2 then (some (([] : List Int), false)) else ((spec_l01In.f a3 0 (wrap64 (a0_0 - 1))).bind fun t103 => (if t103 = true then (if 0 ≤ a3 then (if a3 < (l1.length : Int) then ((spec_Valence.f k a0_0 l0_1 a3).bind fun t105 => (if (rd l1 a3) < t105 then (some (([] : List Int), false)) else ((spec_l10Topple.f k a0_0 l0_1 l1 a2 a3).bind fun t106 => (some (t106, true))))) else (none)) else (none)) else (some (([] : List Int), false))))) else (some (([] : List Int), false)))
theorem spec_Topple.mono : ∀ a0 a1 a2 a3 a4 k, LeO (spec_Topple.f k a0 a1 a2 a3 a4) (spec_Topple.f (k + 1) a0 a1 a2 a3 a4) := by
  intro a0 a1 a2 a3 a4 k; unfold spec_Topple.f; repeat' first | (with_reducible apply spec_PileOk.mono) | (with_reducible apply spec_Valence.mono) | (with_reducible apply spec_l10Topple.mono) | (with_reducible exact LeO.refl _) | (with_reducible exact LeO.none _) | (with_reducible refine LeO.ite ?_ ?_) | (with_reducible refine LeO.bind ?_ (fun _ => ?_)) | apply spec_PileOk.mono | apply spec_Valence.mono | apply spec_l10Topple.mono | exact LeO.none _ | refine LeO.ite ?_ ?_ | refine LeO.bind ?_ (fun _ => ?_)
def impl_Topple.j0 : Nat → List Int → Int → Int → Bool → Int → List (S70) → Option (List Int × Bool)
  | 0, _, _, _, _, _, _ => none
  | k + 1, x1, x2, x3, x38, x102000, x102001 => if x38 = true then (some (([] : List Int), false)) else ((impl_copyInts.f x1).bind fun t106 => ((impl_fire.f k x102000 x102001 t106 x3 1).bind fun t109 => (if 0 ≤ x2 then (if x2 < (t106.length : Int) then (some ((t109.set (x2 : Int).toNat 0), true)) else (none)) else (none))))
def impl_Topple.f (k : Nat) (a0_0 : Int) (l0_1 : List (S70)) (l1 : List Int) (a2 : Int) (a3 : Int) : Option (List Int × Bool) := (impl_PileOk.f k a0_0 l0_1 l1 a2).bind fun t102 => (if t102 = true then (if a3 = a2 then (impl_Topple.j0 k l1 a2 a3 true a0_0 l0_1) else ((impl_within.f a3 0 (wrap64 (a0_0 - 1))).bind fun t103 => (if t103 = true then (if 0 ≤ a3 then (if a3 < (l1.length : Int) then ((impl_Valence.f k a0_0 l0_1 a3).bind fun t105 => (impl_Topple.j0 k l1 a2 a3 (decide ((rd l1 a3) < t105)) a0_0 l0_1)) else (none)) else (none)) else (impl_Topple.j0 k l1 a2 a3 true a0_0 l0_1)))) else (impl_Topple.j0 k l1 a2 a3 true a0_0 l0_1))
theorem impl_Topple.mono_l : ∀ k, (∀ y0 y1 y2 y3 y4 y5, LeO (impl_Topple.j0 k y0 y1 y2 y3 y4 y5) (impl_Topple.j0 (k + 1) y0 y1 y2 y3 y4 y5))
  | 0 => fun _ _ _ _ _ _ r h => by simp [impl_Topple.j0] at h
  | k + 1 => by
    have ih0 := impl_Topple.mono_l k
    · intro y0 y1 y2 y3 y4 y5
      unfold impl_Topple.j0
      exact zm19
theorem impl_Topple.mono : ∀ a0 a1 a2 a3 a4 k, LeO (impl_Topple.f k a0 a1 a2 a3 a4) (impl_Topple.f (k + 1) a0 a1 a2 a3 a4) := by
  intro a0 a1 a2 a3 a4 k; have ih0 := impl_Topple.mono_l k; unfold impl_Topple.f; exact zm19
def spec_l10Settle.l0 : Nat → Int → List Int → List Int → Int → List (S70) → Option (List Int × List Int)
  | 0, _, _, _, _, _ => none
  | k + 1, x2, x8, x9, x102000, x102001 => (spec_l10Unstable.f k x102000 x102001 x8 x2).bind fun t111 => (if t111 < 0 then (some (x8, x9)) else ((spec_l10Topple.f k x102000 x102001 x8 x2 t111).bind fun t112 => (if 0 ≤ t111 then (if t111 < (x9.length : Int) then (spec_l10Settle.l0 k x2 t112 (x9.set (t111 : Int).toNat (wrap64 ((rd x9 t111) + 1))) x102000 x102001) else (none)) else (none))))
def spec_l10Settle.f (k : Nat) (a0_0 : Int) (l0_1 : List (S70)) (l1 : List Int) (a2 : Int) : Option (List Int × List Int) := (some (([] : List Int) : List Int)).bind fun y102 => (if y102.length + l1.length < 17592186044416 then (if 0 ≤ a0_0 then (if (a0_0 : Int).toNat ≤ 35184372088832 then (spec_l10Settle.l0 k a2 (y102 ++ l1) (List.replicate (a0_0 : Int).toNat 0) a0_0 l0_1) else (none)) else (none)) else (none))
theorem spec_l10Settle.mono_l : ∀ k, (∀ y0 y1 y2 y3 y4, LeO (spec_l10Settle.l0 k y0 y1 y2 y3 y4) (spec_l10Settle.l0 (k + 1) y0 y1 y2 y3 y4))
  | 0 => fun _ _ _ _ _ r h => by simp [spec_l10Settle.l0] at h
  | k + 1 => by
    have ih0 := spec_l10Settle.mono_l k
    · intro y0 y1 y2 y3 y4
      unfold spec_l10Settle.l0
      exact zm20
theorem spec_l10Settle.mono : ∀ a0 a1 a2 a3 k, LeO (spec_l10Settle.f k a0 a1 a2 a3) (spec_l10Settle.f (k + 1) a0 a1 a2 a3) := by
  intro a0 a1 a2 a3 k; have ih0 := spec_l10Settle.mono_l k; unfold spec_l10Settle.f; exact zm20
def impl_stabilize.l0 : Nat → Int → List Int → List Int → Int → Int → List (S70) → Option (List Int × List Int)
  | 0, _, _, _, _, _, _ => none
  | k + 1, x2, x8, x9, x10, x102000, x102001 => if x10 ≥ 0 then (if 0 ≤ x10 then (if x10 < (x8.length : Int) then ((impl_Valence.f k x102000 x102001 x10).bind fun t110 => (if t110 = 0 then (none) else ((impl_fire.f k x102000 x102001 x8 x10 (wrap64 (Int.tdiv (rd x8 x10) t110))).bind fun t111 => (if x10 < (x9.length : Int) then ((impl_unstable.f k x102000 x102001 t111 x2).bind fun t114 => (impl_stabilize.l0 k x2 t111 (x9.set (x10 : Int).toNat (wrap64 ((rd x9 x10) + (wrap64 (Int.tdiv (rd x8 x10) t110))))) t114 x102000 x102001)) else (none))))) else (none)) else (none)) else (if 0 ≤ x2 then (if x2 < (x8.length : Int) then (some ((x8.set (x2 : Int).toNat 0), x9)) else (none)) else (none))
def impl_stabilize.f (k : Nat) (a0_0 : Int) (l0_1 : List (S70)) (l1 : List Int) (a2 : Int) : Option (List Int × List Int) := (impl_copyInts.f l1).bind fun t102 => (if 0 ≤ a0_0 then (if (a0_0 : Int).toNat ≤ 35184372088832 then ((impl_unstable.f k a0_0 l0_1 t102 a2).bind fun t108 => (impl_stabilize.l0 k a2 t102 (List.replicate (a0_0 : Int).toNat 0) t108 a0_0 l0_1)) else (none)) else (none))
theorem impl_stabilize.mono_l : ∀ k, (∀ y0 y1 y2 y3 y4 y5, LeO (impl_stabilize.l0 k y0 y1 y2 y3 y4 y5) (impl_stabilize.l0 (k + 1) y0 y1 y2 y3 y4 y5))
  | 0 => fun _ _ _ _ _ _ r h => by simp [impl_stabilize.l0] at h
  | k + 1 => by
    have ih0 := impl_stabilize.mono_l k
    · intro y0 y1 y2 y3 y4 y5
      unfold impl_stabilize.l0
      exact zm17
theorem impl_stabilize.mono : ∀ a0 a1 a2 a3 k, LeO (impl_stabilize.f k a0 a1 a2 a3) (impl_stabilize.f (k + 1) a0 a1 a2 a3) := by
  intro a0 a1 a2 a3 k; have ih0 := impl_stabilize.mono_l k; unfold impl_stabilize.f; exact zm17
end Go.Proofs.Ytjecgolakaiddaa.P
end

section
namespace Go.Proofs.Ytjecgolakaiddaa.Cf
set_option linter.unusedVariables false
set_option linter.unusedSimpArgs false
open Go.RowKit Go.Proofs.YtjecgolakaiddaaW.PrintWords Go.Proofs.Ytjecgolakaiddaa.P
/-- Where the graph is valid. -/
structure Gr (n : Nat) (es : List E) (q : Int) : Prop where
  n1 : 1 ≤ n
  n6 : n ≤ 6
  hes : ∀ e ∈ es, EOk n e
  hel : es.length ≤ 12
  hj : Joined n es
  hq : 0 ≤ q ∧ q < n
theorem Gr.of {n : Nat} {es : List E} {q : Int} (h : GOk (n : Int) es) (hq : 0 ≤ q ∧ q < n) : Gr n es q := by
  obtain ⟨h1, _, h3⟩ := h
  unfold EsOk at h1
  exact ⟨by omega, by omega, h1.2.2.2, h1.2.2.1, h3, hq⟩
end Go.Proofs.Ytjecgolakaiddaa.Cf
end

section
namespace Go.Proofs.Ytjecgolakaiddaa.Cf
set_option linter.unusedVariables false
set_option linter.unusedSimpArgs false
open Go.RowKit Go.Proofs.YtjecgolakaiddaaW.PrintWords Go.Proofs.YtjecgolakaiddaaW.PrintMore Go.Proofs.Ytjecgolakaiddaa.P
theorem multE_alt {n : Int} {e : E} (h : EOk n e) {a b : Int} (hab : a ≠ b) : multE a b e = if e.f0 = mn a b ∧ e.f1 = mx a b then 1 else 0 := by
  unfold EOk at h
  unfold multE mn mx
  by_cases c : b < a
  · rw [if_pos c, if_neg (show ¬ a < b by omega)]
    by_cases x : e.f0 = b ∧ e.f1 = a
    · rw [if_pos (.inr x), if_pos x]
    · rw [if_neg (by omega), if_neg x]
  · rw [if_neg c, if_pos (show a < b by omega)]
    by_cases x : e.f0 = a ∧ e.f1 = b
    · rw [if_pos (.inl x), if_pos x]
    · rw [if_neg (by omega), if_neg x]
theorem mult_self {n : Int} {es : List E} (hes : ∀ e ∈ es, EOk n e) (a : Int) : mult es a a = 0 := by
  apply sumE_zero
  intro e he
  have h := hes e he
  unfold EOk at h
  unfold multE
  rw [if_neg (by omega)]
theorem mult_drop {es : List E} {i : Nat} (h : i < es.length) (a b : Int) : mult (es.drop i) a b = multE a b es[i] + mult (es.drop (i + 1)) a b := by
  rw [List.drop_eq_getElem_cons h]
  exact sumE_cons _ _ _
theorem specMult_l0 (n : Int) (es : List E) (hes : ∀ e ∈ es, EOk n e) (hel : es.length ≤ 12) (a b : Int) (hab : a ≠ b) : ∀ (d i : Nat) (c : Int), i + d = es.length → 0 ≤ c → c ≤ i → Ep (fun k => spec_Multiplicity.l0 k a b c es (es.length : Int) (i : Int)) (· = c + mult (es.drop i) a b) := by
  intro d
  induction d with
  | zero =>
    intro i c hi h0 h1
    refine Ep.up ?_
    simp only [spec_Multiplicity.l0]
    refine Ep.neg (by omega) (Ep.now ?_)
    rw [List.drop_of_length_le (by omega)]
    simp [mult, sumE]
  | succ d ih =>
    intro i c hi h0 h1
    have hlt : i < es.length := by omega
    have hk := hes _ (List.getElem_mem hlt)
    refine Ep.up ?_
    simp only [spec_Multiplicity.l0]
    refine Ep.pos (by omega) (Ep.pos (by omega) (Ep.pos (by omega) ?_))
    rw [rdE_get hlt, wrap_succ (by omega), wrap_id (x := c + 1) (by omega) (by omega), mult_drop hlt, multE_alt hk hab]
    refine Ep.ite (fun h => Ep.ite (fun h2 => ?_) (fun h2 => ?_)) (fun h => ?_)
    · rw [if_pos ⟨h, h2⟩]
      refine (ih (i + 1) (c + 1) (by omega) (by omega) (by omega)).mono ?_
      rintro _ rfl
      omega
    · rw [if_neg (fun x => h2 x.2)]
      refine (ih (i + 1) c (by omega) (by omega) (by omega)).mono ?_
      rintro _ rfl
      omega
    · rw [if_neg (fun x => h x.1)]
      refine (ih (i + 1) c (by omega) (by omega) (by omega)).mono ?_
      rintro _ rfl
      omega
theorem l02Vert_eq (n : Int) (es : List E) (v : Int) : spec_l02Vert.f n es v = some (decide (0 ≤ v ∧ v < n)) := by
  unfold spec_l02Vert.f
  by_cases h : v ≥ 0
  · rw [if_pos h]
    have : (0 ≤ v ∧ v < n) ↔ v < n := ⟨fun x => x.2, fun x => ⟨h, x⟩⟩
    simp only [this]
  · rw [if_neg h]
    have : ¬ (0 ≤ v ∧ v < n) := fun x => h x.1
    simp only [this, decide_false]
theorem specMult (n : Int) (es : List E) (hes : ∀ e ∈ es, EOk n e) (hel : es.length ≤ 12) (a b : Int) (ha : 0 ≤ a ∧ a < n) (hb : 0 ≤ b ∧ b < n) : Ep (fun k => spec_Multiplicity.f k n es a b) (· = mult es a b) := by
  simp only [spec_Multiplicity.f]
  refine Ep.bind0 (l02Vert_eq _ _ _) (Ep.pos (by simpa using ha) (Ep.bind0 (l02Vert_eq _ _ _) (Ep.pos (by simpa using hb) ?_)))
  refine Ep.up ?_
  simp only [spec_Multiplicity.j0]
  refine Ep.ite (fun h => Ep.now ?_) (fun h => ?_)
  · have : a = b := by simpa using h
    rw [this, mult_self hes]
  · have hab : a ≠ b := by simpa using h
    refine (specMult_l0 n es hes hel a b hab es.length 0 0 (by omega) (by omega) (by omega)).mono ?_
    rintro _ rfl
    simp
theorem implMult_l0 (n : Int) (es : List E) (hes : ∀ e ∈ es, EOk n e) (hel : es.length ≤ 12) (a b : Int) (hab : a ≠ b) : ∀ (d i : Nat) (c : Int), i + d = es.length → 0 ≤ c → c ≤ i → Ep (fun k => impl_Multiplicity.l0 k a b c es (es.length : Int) (i : Int)) (· = c + mult (es.drop i) a b) := by
  intro d
  induction d with
  | zero =>
    intro i c hi h0 h1
    refine Ep.up ?_
    simp only [impl_Multiplicity.l0]
    refine Ep.neg (by omega) (Ep.now ?_)
    rw [List.drop_of_length_le (by omega)]
    simp [mult, sumE]
  | succ d ih =>
    intro i c hi h0 h1
    have hlt : i < es.length := by omega
    have hk := hes _ (List.getElem_mem hlt)
    refine Ep.up ?_
    simp only [impl_Multiplicity.l0]
    refine Ep.pos (by omega) (Ep.pos (by omega) (Ep.pos (by omega) ?_))
    rw [rdE_get hlt, wrap_succ (by omega), wrap_id (x := c + 1) (by omega) (by omega), mult_drop hlt, multE_alt hk hab]
    refine Ep.ite (fun h => Ep.ite (fun h2 => ?_) (fun h2 => ?_)) (fun h => ?_)
    · rw [if_pos ⟨h, h2⟩]
      refine (ih (i + 1) (c + 1) (by omega) (by omega) (by omega)).mono ?_
      rintro _ rfl
      omega
    · rw [if_neg (fun x => h2 x.2)]
      refine (ih (i + 1) c (by omega) (by omega) (by omega)).mono ?_
      rintro _ rfl
      omega
    · rw [if_neg (fun x => h x.1)]
      refine (ih (i + 1) c (by omega) (by omega) (by omega)).mono ?_
      rintro _ rfl
      omega
theorem implMult (n : Int) (es : List E) (hes : ∀ e ∈ es, EOk n e) (hel : es.length ≤ 12) (a b : Int) (ha : 0 ≤ a ∧ a < n) (hb : 0 ≤ b ∧ b < n) : Ep (fun k => impl_Multiplicity.f k n es a b) (· = mult es a b) := by
  simp only [impl_Multiplicity.f]
  refine Ep.neg (by unfold mn; split <;> omega) (Ep.neg (by unfold mx; split <;> omega) ?_)
  refine Ep.up ?_
  simp only [impl_Multiplicity.j0]
  refine Ep.ite (fun h => Ep.now ?_) (fun h => ?_)
  · have : a = b := by simpa using h
    rw [this, mult_self hes]
  · have hab : a ≠ b := by simpa using h
    refine (implMult_l0 n es hes hel a b hab es.length 0 0 (by omega) (by omega) (by omega)).mono ?_
    rintro _ rfl
    simp
/-- The first place, counted from i; or -1. -/
def idxF (x : Int) : List Int → Nat → Int
  | [], _ => -1
  | a :: r, i => if x = a then i else idxF x r (i + 1)
theorem idxF_drop {l : List Int} {i : Nat} (h : i < l.length) (x : Int) (j : Nat) : idxF x (l.drop i) j = if x = l[i] then (j : Int) else idxF x (l.drop (i + 1)) (j + 1) := by
  rw [List.drop_eq_getElem_cons h]
  rfl
theorem idxF_mem (x : Int) : ∀ (l : List Int) (i : Nat), 0 ≤ idxF x l i ↔ x ∈ l
  | [], i => by simp [idxF]
  | a :: r, i => by
    unfold idxF
    by_cases h : x = a
    · rw [if_pos h, h]; simp
    · rw [if_neg h, idxF_mem x r (i + 1)]; simp [h]
theorem index_l0 (l : List Int) (x : Int) (hl : l.length ≤ 1048576) : ∀ (d i : Nat), i + d = l.length → Ep (fun k => slices_Index_int_int.l0 k l x (l.length : Int) (i : Int)) (· = idxF x (l.drop i) i) := by
  intro d
  induction d with
  | zero =>
    intro i hi
    refine Ep.up ?_
    simp only [slices_Index_int_int.l0]
    refine Ep.neg (by omega) (Ep.now ?_)
    rw [List.drop_of_length_le (by omega)]
    rfl
  | succ d ih =>
    intro i hi
    have hlt : i < l.length := by omega
    refine Ep.up ?_
    simp only [slices_Index_int_int.l0]
    refine Ep.pos (by omega) (Ep.pos (by omega) (Ep.pos (by omega) ?_))
    rw [rd_get hlt, wrap_succ (by omega), idxF_drop hlt]
    refine Ep.ite (fun h => Ep.now ?_) (fun h => ?_)
    · rw [if_pos h]
    · rw [if_neg h]
      exact ih (i + 1) (by omega)
theorem index_ok (l : List Int) (x : Int) (hl : l.length ≤ 1048576) : Ep (fun k => slices_Index_int_int.f k l x) (· = idxF x l 0) := by
  have := index_l0 l x hl l.length 0 (by omega)
  simp only [slices_Index_int_int.f]
  exact this
theorem contains_ok (l : List Int) (x : Int) (hl : l.length ≤ 1048576) : Ep (fun k => slices_Contains_int_int.f k l x) (· = decide (x ∈ l)) := by
  simp only [slices_Contains_int_int.f]
  refine Ep.bind (index_ok l x hl) ?_
  rintro _ rfl
  refine Ep.now ?_
  have := idxF_mem x l 0
  simp only [ge_iff_le, this]
theorem burnSum_bd {es : List E} (hel : es.length ≤ 12) (v : Int) : ∀ (b : List Int), 0 ≤ burnSum es b v ∧ burnSum es b v ≤ 12 * b.length
  | [] => by simp [burnSum]
  | a :: r => by
    have ih := burnSum_bd hel v r
    have h0 := mult_nonneg es v a
    have h1 := mult_le es v a
    unfold burnSum at ih ⊢
    rw [List.map_cons, List.sum_cons, List.length_cons]
    omega
/-- The list of truth values tells what burns. -/
def BRep (n : Nat) (x : List Bool) (b : List Int) : Prop := x.length = n ∧ ∀ w : Nat, w < n → rdOf false x (w : Int) = decide ((w : Int) ∈ b)
theorem BRep.push {n : Nat} {x : List Bool} {b : List Int} (h : BRep n x b) {v : Nat} (hv : v < n) : BRep n (x.set v true) (b ++ [(v : Int)]) := by
  refine ⟨by rw [List.length_set]; exact h.1, fun w hw => ?_⟩
  have := h.2 w hw
  simp only [rdOf, Int.toNat_natCast, List.getD_eq_getElem?_getD] at this ⊢
  by_cases e : v = w
  · subst e
    rw [List.getElem?_set_self (by have := h.1; omega)]
    simp
  · rw [List.getElem?_set_ne e, this]
    have : ¬ (w : Int) = v := by omega
    simp [this]
theorem BRep.start {n : Nat} {q : Int} (h0 : 0 ≤ q) (h1 : q < n) : BRep n ((List.replicate n false).set q.toNat true) [q] := by
  have h : BRep n (List.replicate n false) [] := ⟨by simp, fun w hw => by simp [rdOf, hw]⟩
  have := h.push (v := q.toNat) (by omega)
  have e : ((q.toNat : Nat) : Int) = q := by omega
  rw [e] at this
  exact this
theorem specBurn_l2 {n : Nat} {es : List E} {q : Int} (g : Gr n es q) (d : List Int) (hd : d.length = n) (b : List Int) (hok : b.Nodup ∧ ∀ v ∈ b, 0 ≤ v ∧ v < n) (x : List Bool) (hx : BRep n x b) (v : Nat) (hv : v < n) (next : Int) {Q : List Int → Prop}
    (hk : Ep (fun k => spec_l05Burn.l1 k d b x (if (v : Int) ∉ b ∧ rd d v < burnSum es b v then (v : Int) else next) ((v : Int) - 1) (n : Int) es) Q) :
    ∀ (dd i : Nat), i + dd = n → Ep (fun k => spec_l05Burn.l2 k d b x next (v : Int) (sumN i (fun w => if (w : Int) ∈ b then mult es v w else 0)) (i : Int) (n : Int) es) Q := by
  have hn := g.n6
  have hel := g.hel
  have hxl := hx.1
  have hbd : ∀ i, i ≤ n → 0 ≤ sumN i (fun w => if (w : Int) ∈ b then mult es v w else 0) ∧ sumN i (fun w => if (w : Int) ∈ b then mult es v w else 0) ≤ i * 12 := by
    intro i hi
    have hm : ∀ w : Nat, 0 ≤ (if (w : Int) ∈ b then mult es v w else 0) ∧ (if (w : Int) ∈ b then mult es v w else 0) ≤ 12 := by
      intro w
      have h0 := mult_nonneg es v w
      have h1 := mult_le es v w
      split <;> omega
    exact ⟨sumN_nonneg fun w _ => (hm w).1, sumN_le_const fun w _ => (hm w).2⟩
  intro dd
  induction dd with
  | zero =>
    intro i hi
    obtain rfl : i = n := by omega
    rw [sum_pick (mult es v) i b hok.1 hok.2]
    show Ep (fun k => spec_l05Burn.l2 k d b x next (v : Int) (burnSum es b v) (i : Int) (i : Int) es) Q
    refine Ep.up ?_
    simp only [spec_l05Burn.l2]
    rw [wrap_id (x := (v : Int) - 1) (by omega) (by omega)]
    refine Ep.neg (by omega) (Ep.pos (by omega) (Ep.pos (by omega) ?_))
    rw [hx.2 v hv]
    refine Ep.ite (fun h => ?_) (fun h => ?_)
    · have h' : (v : Int) ∈ b := by simpa using h
      rw [if_neg (fun y => y.1 h')] at hk
      exact hk
    · have h' : (v : Int) ∉ b := by simpa using h
      refine Ep.pos (by omega) (Ep.ite (fun h2 => ?_) (fun h2 => ?_))
      · rw [if_pos ⟨h', h2⟩] at hk
        exact hk
      · rw [if_neg (fun y => h2 y.2)] at hk
        exact hk
  | succ dd ih =>
    intro i hi
    have hb := hbd i (by omega)
    have hb1 := hbd (i + 1) (by omega)
    have ih' := ih (i + 1) (by omega)
    simp only [sumN] at ih' hb1
    refine Ep.up ?_
    simp only [spec_l05Burn.l2]
    refine Ep.pos (by omega) (Ep.pos (by omega) (Ep.pos (by omega) ?_))
    rw [hx.2 i (by omega), wrap_succ (by omega)]
    refine Ep.ite (fun h => ?_) (fun h => ?_)
    · have h' : (i : Int) ∈ b := by simpa using h
      rw [if_pos h'] at ih' hb1
      refine Ep.bind (specMult n es g.hes hel v i (by omega) (by omega)) ?_
      rintro _ rfl
      rw [wrap_id (by omega) (by omega)]
      exact ih'
    · have h' : (i : Int) ∉ b := by simpa using h
      rw [if_neg h', Int.add_zero] at ih'
      exact ih'
theorem specBurn_l1 {n : Nat} {es : List E} {q : Int} (g : Gr n es q) (d : List Int) (hd : d.length = n) (b : List Int) (hok : b.Nodup ∧ ∀ v ∈ b, 0 ≤ v ∧ v < n) (x : List Bool) (hx : BRep n x b) {Q : List Int → Prop}
    (hk : Ep (fun k => spec_l05Burn.l1 k d b x (nextB es (rd d) b n 0) (-1) (n : Int) es) Q) :
    ∀ i : Nat, i ≤ n → Ep (fun k => spec_l05Burn.l1 k d b x (nextB es (rd d) b (n - i) i) ((i : Int) - 1) (n : Int) es) Q := by
  have hn := g.n6
  intro i
  induction i with
  | zero => intro _; exact hk
  | succ i ih =>
    intro hi
    have ih' := ih (by omega)
    obtain ⟨m, hm⟩ : ∃ m, n - i = m + 1 := ⟨n - i - 1, by omega⟩
    have hm2 : n - (i + 1) = m := by omega
    rw [hm] at ih'
    unfold nextB at ih'
    rw [hm2, show (((i + 1 : Nat) : Int) - 1) = (i : Int) by omega]
    refine Ep.up ?_
    simp only [spec_l05Burn.l1]
    refine Ep.pos (by omega) ?_
    exact specBurn_l2 g d hd b hok x hx i (by omega) _ ih' n 0 (by omega)
theorem specBurn_l0 {n : Nat} {es : List E} {q : Int} (g : Gr n es q) (d : List Int) (hd : d.length = n) : ∀ (k : Nat) (b : List Int) (x : List Bool), n + 1 ≤ b.length + k → Burn n es (rd d) q b → BRep n x b → Ep (fun f => spec_l05Burn.l0 f d b x (n : Int) es) (· = burnW n es (rd d) k b) := by
  have hn := g.n6
  intro k
  induction k with
  | zero =>
    intro b x hl hb _
    have := hb.len g.hq
    omega
  | succ k ih =>
    intro b x hl hb hx
    have hok := hb.ok g.hq
    have hlen := hb.len g.hq
    have hxl := hx.1
    refine Ep.up ?_
    simp only [spec_l05Burn.l0]
    rw [wrap_id (x := (n : Int) - 1) (by omega) (by omega)]
    have h1 := specBurn_l1 (Q := (· = burnW n es (rd d) (k + 1) b)) g d hd b ⟨hok.1, hok.2.1⟩ x hx ?_ n (Nat.le_refl _)
    · rw [Nat.sub_self] at h1
      exact h1
    · unfold burnW
      have hnx := nextB_ok es (rd d) b n 0
      generalize nextB es (rd d) b n 0 = v at hnx ⊢
      refine Ep.up ?_
      simp only [spec_l05Burn.l1]
      refine Ep.neg (by omega) (Ep.ite (fun h => Ep.now ?_) (fun h => ?_))
      · rw [if_pos h]
      · rw [if_neg h]
        rcases hnx with ⟨h2, _⟩ | ⟨h2, h3, h4, h5⟩
        · omega
        · obtain ⟨v, rfl⟩ := Int.eq_ofNat_of_zero_le (a := v) (by omega)
          refine Ep.pos (by omega) (Ep.pos (by omega) (Ep.pos (by omega) ?_))
          exact ih _ _ (by simp; omega) (hb.step (by omega) (by omega) h4 h5) (hx.push (by omega))
theorem specBurn {n : Nat} {es : List E} {q : Int} (g : Gr n es q) (d : List Int) (hd : d.length = n) : Ep (fun k => spec_l05Burn.f k (n : Int) es d q) (· = burnF n es (rd d) q) := by
  have hn := g.n6
  have hq := g.hq
  simp only [spec_l05Burn.f]
  refine Ep.pos (by omega) (Ep.pos (by omega) (Ep.bind0 rfl (Ep.pos (by omega) (Ep.pos (by simp; omega) ?_))))
  exact specBurn_l0 g d hd n [q] _ (by simp; omega) .start (BRep.start hq.1 hq.2)
theorem implBurn_l2 {n : Nat} {es : List E} {q : Int} (g : Gr n es q) (d : List Int) (hd : d.length = n) (b : List Int) (hok : b.Nodup ∧ ∀ v ∈ b, 0 ≤ v ∧ v < n) (hbl : b.length ≤ n) (v : Nat) (hv : v < n) {Q : List Int → Prop}
    (hk : Ep (fun k => impl_burn.l1 k d b (if (v : Int) ∉ b ∧ rd d v < burnSum es b v then (v : Int) else -1) ((v + 1 : Nat) : Int) (n : Int) es) Q) :
    ∀ (dd i : Nat), i + dd = b.length → Ep (fun k => impl_burn.l2 k d b (-1) (v : Int) (burnSum es (b.take i) v) b (b.length : Int) (i : Int) (n : Int) es) Q := by
  have hn := g.n6
  have hel := g.hel
  intro dd
  induction dd with
  | zero =>
    intro i hi
    rw [List.take_of_length_le (by omega)]
    refine Ep.up ?_
    simp only [impl_burn.l2]
    have hw := wrap_succ (i := v) (by omega)
    rw [hw]
    refine Ep.neg (by omega) ?_
    refine Ep.bind (contains_ok b v (by omega)) ?_
    rintro _ rfl
    refine Ep.ite (fun h => ?_) (fun h => ?_)
    · have h' : (v : Int) ∈ b := by simpa using h
      rw [if_neg (fun y => y.1 h')] at hk
      exact hk
    · have h' : (v : Int) ∉ b := by simpa using h
      refine Ep.pos (by omega) (Ep.pos (by omega) (Ep.ite (fun h2 => ?_) (fun h2 => ?_)))
      · rw [if_pos ⟨h', h2⟩] at hk
        exact hk
      · rw [if_neg (fun y => h2 y.2)] at hk
        exact hk
  | succ dd ih =>
    intro i hi
    have hlt : i < b.length := by omega
    have hbi := hok.2 _ (List.getElem_mem hlt)
    have hb := burnSum_bd hel v (b.take i)
    have hml := mult_le es v b[i]
    have hm0 := mult_nonneg es v b[i]
    rw [List.length_take] at hb
    have e : burnSum es (b.take (i + 1)) v = burnSum es (b.take i) v + mult es v b[i] := by
      unfold burnSum
      rw [List.take_succ_eq_append_getElem hlt, List.map_append, List.sum_append]
      simp
    have ih' := ih (i + 1) (by omega)
    rw [e] at ih'
    refine Ep.up ?_
    simp only [impl_burn.l2]
    refine Ep.pos (by omega) (Ep.pos (by omega) (Ep.pos (by omega) ?_))
    rw [rd_get hlt, wrap_succ (by omega)]
    refine Ep.bind (implMult n es g.hes hel v b[i] (by omega) hbi) ?_
    rintro _ rfl
    rw [wrap_id (by omega) (by omega)]
    exact ih'
theorem implBurn_l1 {n : Nat} {es : List E} {q : Int} (g : Gr n es q) (d : List Int) (hd : d.length = n) (b : List Int) (hok : b.Nodup ∧ ∀ v ∈ b, 0 ≤ v ∧ v < n) (hbl : b.length ≤ n) {Q : List Int → Prop}
    (hk : Ep (fun k => if nextB es (rd d) b n 0 < 0 then some b else (if b.length < 17592186044416 then impl_burn.l0 k d (b ++ [nextB es (rd d) b n 0]) (n : Int) es else none)) Q) :
    ∀ (dd i : Nat), i + dd = n → nextB es (rd d) b n 0 = nextB es (rd d) b dd i → Ep (fun k => impl_burn.l1 k d b (-1) (i : Int) (n : Int) es) Q := by
  have hn := g.n6
  intro dd
  induction dd with
  | zero =>
    intro i hi he
    rw [he] at hk
    simp only [nextB] at hk
    refine Ep.up ?_
    simp only [impl_burn.l1]
    refine Ep.neg (by omega) (Ep.up ?_)
    simp only [impl_burn.j2]
    exact Ep.neg (by simp) hk
  | succ dd ih =>
    intro i hi he
    refine Ep.up ?_
    simp only [impl_burn.l1]
    refine Ep.pos (by omega) (Ep.up ?_)
    simp only [impl_burn.j2]
    refine Ep.pos (by simp) ?_
    have h2 := implBurn_l2 (Q := Q) g d hd b hok hbl i (by omega) ?_ b.length 0 (by omega)
    · simpa [burnSum] using h2
    · replace he : nextB es (rd d) b n 0 = (if (i : Int) ∉ b ∧ rd d i < burnSum es b i then (i : Int) else nextB es (rd d) b dd (i + 1)) := he
      by_cases h : (i : Int) ∉ b ∧ rd d i < burnSum es b i
      · rw [if_pos h] at he ⊢
        rw [he] at hk
        refine Ep.up ?_
        simp only [impl_burn.l1]
        refine Ep.ite (fun _ => ?_) (fun _ => ?_)
        · refine Ep.up ?_
          simp only [impl_burn.j2]
          exact Ep.neg (by simp) hk
        · refine Ep.up ?_
          simp only [impl_burn.j2]
          exact Ep.neg (by simp) hk
      · rw [if_neg h] at he ⊢
        exact ih (i + 1) (by omega) he
theorem implBurn_l0 {n : Nat} {es : List E} {q : Int} (g : Gr n es q) (d : List Int) (hd : d.length = n) : ∀ (k : Nat) (b : List Int), n + 1 ≤ b.length + k → Burn n es (rd d) q b → Ep (fun f => impl_burn.l0 f d b (n : Int) es) (· = burnW n es (rd d) k b) := by
  have hn := g.n6
  intro k
  induction k with
  | zero =>
    intro b hl hb
    have := hb.len g.hq
    omega
  | succ k ih =>
    intro b hl hb
    have hok := hb.ok g.hq
    have hlen := hb.len g.hq
    refine Ep.up ?_
    simp only [impl_burn.l0]
    refine implBurn_l1 (Q := (· = burnW n es (rd d) (k + 1) b)) g d hd b ⟨hok.1, hok.2.1⟩ hlen ?_ n 0 (by omega) rfl
    unfold burnW
    have hnx := nextB_ok es (rd d) b n 0
    generalize nextB es (rd d) b n 0 = v at hnx ⊢
    refine Ep.ite (fun h => Ep.now ?_) (fun h => ?_)
    · rw [if_pos h]
    · rw [if_neg h]
      rcases hnx with ⟨h2, _⟩ | ⟨h2, h3, h4, h5⟩
      · omega
      · exact Ep.pos (by omega) (ih _ (by simp; omega) (hb.step (by omega) (by omega) h4 h5))
theorem implBurn {n : Nat} {es : List E} {q : Int} (g : Gr n es q) (d : List Int) (hd : d.length = n) : Ep (fun k => impl_burn.f k (n : Int) es d q) (· = burnF n es (rd d) q) := by
  have hn := g.n6
  simp only [impl_burn.f]
  exact implBurn_l0 g d hd n [q] (by simp; omega) .start
end Go.Proofs.Ytjecgolakaiddaa.Cf
end

section
namespace Go.Proofs.Ytjecgolakaiddaa.P
open Go.RowKit Go.Proofs.YtjecgolakaiddaaW.PrintWords Go.Proofs.YtjecgolakaiddaaW.PrintLast Go.Proofs.YtjecgolakaiddaaW.PrintMore
attribute [local go_sem] max2_int min2_int max_two min_two max_three min_three max_four min_four
set_option linter.unusedVariables false
set_option linter.unusedSimpArgs false
mutual
def spec_l05Reduce.l0 : Nat → List Int → Int → List Int → List Int → Int → List (S70) → Option (List Int × List Int)
  | 0, _, _, _, _, _, _ => none
  | k + 1, x1, x2, x8, x9, x102000, x102001 => (spec_l05Debt.f k x9 x2).bind fun t111 => (if t111 = true then (spec_l05Reduce.l1 k x1 x2 x8 x9 (x9.length : Int) 0 x102000 x102001) else (spec_l05Reduce.l2 k x1 x2 x8 x9 x102000 x102001))
def spec_l05Reduce.l1 : Nat → List Int → Int → List Int → List Int → Int → Int → Int → List (S70) → Option (List Int × List Int)
  | 0, _, _, _, _, _, _, _, _ => none
  | k + 1, x1, x2, x8, x9, x23, x24, x102000, x102001 => if x24 < x23 then (if x24 = x2 then (spec_l05Reduce.l1 k x1 x2 x8 x9 x23 (wrap64 (x24 + 1)) x102000 x102001) else (if 0 ≤ x24 then (if x24 < (x9.length : Int) then (if (rd x9 x24) < 0 then (if x24 < (x8.length : Int) then ((some (x8.set (x24 : Int).toNat (wrap64 ((rd x8 x24) - 1)) : List Int)).bind fun y114 => ((spec_l04Fire.f k x102000 x102001 x1 y114).bind fun t115 => (spec_l05Reduce.l1 k x1 x2 y114 t115 x23 (wrap64 (x24 + 1)) x102000 x102001))) else (none)) else (spec_l05Reduce.l1 k x1 x2 x8 x9 x23 (wrap64 (x24 + 1)) x102000 x102001)) else (none)) else (none))) else (spec_l05Reduce.l0 k x1 x2 x8 x9 x102000 x102001)
def spec_l05Reduce.l2 : Nat → List Int → Int → List Int → List Int → Int → List (S70) → Option (List Int × List Int)
  | 0, _, _, _, _, _, _ => none
  | k + 1, x1, x2, x8, x9, x102000, x102001 => (spec_l05Burn.f k x102000 x102001 x9 x2).bind fun t118 => (if (t118.length : Int) = x102000 then (some (x9, x8)) else (spec_l05Reduce.l3 k x1 x2 x8 t118 0 x102000 x102001))
def spec_l05Reduce.l3 : Nat → List Int → Int → List Int → List Int → Int → Int → List (S70) → Option (List Int × List Int)
  | 0, _, _, _, _, _, _, _ => none
  | k + 1, x1, x2, x8, x11, x12, x102000, x102001 => if x12 < x102000 then ((spec_l02Has.f k x11 x12).bind fun t121 => (if t121 = true then (spec_l05Reduce.l3 k x1 x2 x8 x11 (wrap64 (x12 + 1)) x102000 x102001) else (if 0 ≤ x12 then (if x12 < (x8.length : Int) then (spec_l05Reduce.l3 k x1 x2 (x8.set (x12 : Int).toNat (wrap64 ((rd x8 x12) + 1))) x11 (wrap64 (x12 + 1)) x102000 x102001) else (none)) else (none)))) else ((spec_l04Fire.f k x102000 x102001 x1 x8).bind fun t124 => (spec_l05Reduce.l2 k x1 x2 x8 t124 x102000 x102001))
end
def spec_l05Reduce.f (k : Nat) (a0_0 : Int) (l0_1 : List (S70)) (l1 : List Int) (a2 : Int) : Option (List Int × List Int) := if 0 ≤ a0_0 then (if (a0_0 : Int).toNat ≤ 35184372088832 then ((some (([] : List Int) : List Int)).bind fun y105 => (if y105.length + l1.length < 17592186044416 then (spec_l05Reduce.l0 k l1 a2 (List.replicate (a0_0 : Int).toNat 0) (y105 ++ l1) a0_0 l0_1) else (none))) else (none)) else (none)
theorem spec_l05Reduce.mono_l : ∀ k, (∀ y0 y1 y2 y3 y4 y5, LeO (spec_l05Reduce.l0 k y0 y1 y2 y3 y4 y5) (spec_l05Reduce.l0 (k + 1) y0 y1 y2 y3 y4 y5)) ∧ (∀ y0 y1 y2 y3 y4 y5 y6 y7, LeO (spec_l05Reduce.l1 k y0 y1 y2 y3 y4 y5 y6 y7) (spec_l05Reduce.l1 (k + 1) y0 y1 y2 y3 y4 y5 y6 y7)) ∧ (∀ y0 y1 y2 y3 y4 y5, LeO (spec_l05Reduce.l2 k y0 y1 y2 y3 y4 y5) (spec_l05Reduce.l2 (k + 1) y0 y1 y2 y3 y4 y5)) ∧ (∀ y0 y1 y2 y3 y4 y5 y6, LeO (spec_l05Reduce.l3 k y0 y1 y2 y3 y4 y5 y6) (spec_l05Reduce.l3 (k + 1) y0 y1 y2 y3 y4 y5 y6))
  | 0 => ⟨fun _ _ _ _ _ _ r h => by simp [spec_l05Reduce.l0] at h, fun _ _ _ _ _ _ _ _ r h => by simp [spec_l05Reduce.l1] at h, fun _ _ _ _ _ _ r h => by simp [spec_l05Reduce.l2] at h, fun _ _ _ _ _ _ _ r h => by simp [spec_l05Reduce.l3] at h⟩
  | k + 1 => by
    obtain ⟨ih0, ih1, ih2, ih3⟩ := spec_l05Reduce.mono_l k
    refine ⟨?_, ?_, ?_, ?_⟩
    · intro y0 y1 y2 y3 y4 y5
      unfold spec_l05Reduce.l0
      exact zm3
    · intro y0 y1 y2 y3 y4 y5 y6 y7
      unfold spec_l05Reduce.l1
      exact zm3
    · intro y0 y1 y2 y3 y4 y5
      unfold spec_l05Reduce.l2
      exact zm3
    · intro y0 y1 y2 y3 y4 y5 y6
      unfold spec_l05Reduce.l3
      exact zm3
theorem spec_l05Reduce.mono : ∀ a0 a1 a2 a3 k, LeO (spec_l05Reduce.f k a0 a1 a2 a3) (spec_l05Reduce.f (k + 1) a0 a1 a2 a3) := by
  intro a0 a1 a2 a3 k; obtain ⟨ih0, ih1, ih2, ih3⟩ := spec_l05Reduce.mono_l k; unfold spec_l05Reduce.f; exact zm3
end Go.Proofs.Ytjecgolakaiddaa.P
end

section
namespace Go.Proofs.Ytjecgolakaiddaa.P
open Go.RowKit Go.Proofs.YtjecgolakaiddaaW.PrintWords Go.Proofs.YtjecgolakaiddaaW.PrintLast Go.Proofs.YtjecgolakaiddaaW.PrintMore
attribute [local go_sem] max2_int min2_int max_two min_two max_three min_three max_four min_four
set_option linter.unusedVariables false
set_option linter.unusedSimpArgs false
mutual
def impl_reduce.l0 : Nat → Int → List Int → List Int → Int → Int → List (S70) → Option (List Int × List Int)
  | 0, _, _, _, _, _, _ => none
  | k + 1, x2, x8, x9, x10, x102000, x102001 => if x10 ≥ 0 then ((impl_Valence.f k x102000 x102001 x10).bind fun t109 => (if 0 ≤ x10 then (if x10 < (x8.length : Int) then (if t109 = 0 then (none) else ((impl_fire.f k x102000 x102001 x8 x10 (wrap64 (-(wrap64 (Int.tdiv (wrap64 ((wrap64 (t109 - 1)) - (rd x8 x10))) t109))))).bind fun t111 => (if x10 < (x9.length : Int) then ((impl_inDebt.f k t111 x2).bind fun t114 => (impl_reduce.l0 k x2 t111 (x9.set (x10 : Int).toNat (wrap64 ((rd x9 x10) - (wrap64 (Int.tdiv (wrap64 ((wrap64 (t109 - 1)) - (rd x8 x10))) t109))))) t114 x102000 x102001)) else (none)))) else (none)) else (none))) else (impl_reduce.l1 k x2 x8 x9 x102000 x102001)
def impl_reduce.l1 : Nat → Int → List Int → List Int → Int → List (S70) → Option (List Int × List Int)
  | 0, _, _, _, _, _ => none
  | k + 1, x2, x8, x9, x102000, x102001 => (impl_burn.f k x102000 x102001 x8 x2).bind fun t115 => (if (t115.length : Int) = x102000 then (some (x8, x9)) else (impl_reduce.l2 k x2 x8 x9 t115 (x9.length : Int) 0 x102000 x102001))
def impl_reduce.l2 : Nat → Int → List Int → List Int → List Int → Int → Int → Int → List (S70) → Option (List Int × List Int)
  | 0, _, _, _, _, _, _, _, _ => none
  | k + 1, x2, x8, x9, x13, x65, x66, x102000, x102001 => if x66 < x65 then ((slices_Contains_int_int.f k x13 x66).bind fun t118 => (if t118 = true then (impl_reduce.l2 k x2 x8 x9 x13 x65 (wrap64 (x66 + 1)) x102000 x102001) else ((impl_fire.f k x102000 x102001 x8 x66 1).bind fun t119 => (if 0 ≤ x66 then (if x66 < (x9.length : Int) then (impl_reduce.l2 k x2 t119 (x9.set (x66 : Int).toNat (wrap64 ((rd x9 x66) + 1))) x13 x65 (wrap64 (x66 + 1)) x102000 x102001) else (none)) else (none))))) else (impl_reduce.l1 k x2 x8 x9 x102000 x102001)
end
def impl_reduce.f (k : Nat) (a0_0 : Int) (l0_1 : List (S70)) (l1 : List Int) (a2 : Int) : Option (List Int × List Int) := (impl_copyInts.f l1).bind fun t102 => (if 0 ≤ a0_0 then (if (a0_0 : Int).toNat ≤ 35184372088832 then ((impl_inDebt.f k t102 a2).bind fun t108 => (impl_reduce.l0 k a2 t102 (List.replicate (a0_0 : Int).toNat 0) t108 a0_0 l0_1)) else (none)) else (none))
theorem impl_reduce.mono_l : ∀ k, (∀ y0 y1 y2 y3 y4 y5, LeO (impl_reduce.l0 k y0 y1 y2 y3 y4 y5) (impl_reduce.l0 (k + 1) y0 y1 y2 y3 y4 y5)) ∧ (∀ y0 y1 y2 y3 y4, LeO (impl_reduce.l1 k y0 y1 y2 y3 y4) (impl_reduce.l1 (k + 1) y0 y1 y2 y3 y4)) ∧ (∀ y0 y1 y2 y3 y4 y5 y6 y7, LeO (impl_reduce.l2 k y0 y1 y2 y3 y4 y5 y6 y7) (impl_reduce.l2 (k + 1) y0 y1 y2 y3 y4 y5 y6 y7))
  | 0 => ⟨fun _ _ _ _ _ _ r h => by simp [impl_reduce.l0] at h, fun _ _ _ _ _ r h => by simp [impl_reduce.l1] at h, fun _ _ _ _ _ _ _ _ r h => by simp [impl_reduce.l2] at h⟩
  | k + 1 => by
    obtain ⟨ih0, ih1, ih2⟩ := impl_reduce.mono_l k
    refine ⟨?_, ?_, ?_⟩
    · intro y0 y1 y2 y3 y4 y5
      unfold impl_reduce.l0
      exact zm5
    · intro y0 y1 y2 y3 y4
      unfold impl_reduce.l1
      exact zm5
    · intro y0 y1 y2 y3 y4 y5 y6 y7
      unfold impl_reduce.l2
      exact zm5
theorem impl_reduce.mono : ∀ a0 a1 a2 a3 k, LeO (impl_reduce.f k a0 a1 a2 a3) (impl_reduce.f (k + 1) a0 a1 a2 a3) := by
  intro a0 a1 a2 a3 k; obtain ⟨ih0, ih1, ih2⟩ := impl_reduce.mono_l k; unfold impl_reduce.f; exact zm5
end Go.Proofs.Ytjecgolakaiddaa.P
end

section
namespace Go.Proofs.Ytjecgolakaiddaa.Cf
set_option linter.unusedVariables false
set_option linter.unusedSimpArgs false
open Go.RowKit Go.Proofs.YtjecgolakaiddaaW.PrintWords Go.Proofs.Ytjecgolakaiddaa.P
theorem specDebt_l0 (q : Int) (p : List Int) (hl : p.length ≤ 1048576) : ∀ (d i : Nat), i + d = p.length → Ep (fun k => spec_l05Debt.l0 k q p (p.length : Int) (i : Int)) (· = decide (0 ≤ debtF q p d i)) := by
  intro d
  induction d with
  | zero =>
    intro i hi
    refine Ep.up ?_
    simp only [spec_l05Debt.l0]
    exact Ep.neg (by omega) (Ep.now rfl)
  | succ d ih =>
    intro i hi
    refine Ep.up ?_
    simp only [spec_l05Debt.l0]
    refine Ep.pos (by omega) (Ep.pos (by omega) (Ep.pos (by omega) ?_))
    rw [wrap_succ (by omega)]
    unfold debtF
    refine Ep.ite (fun h => ?_) (fun h => ?_)
    · rw [if_pos h]
      exact ih (i + 1) (by omega)
    · rw [if_neg h]
      refine Ep.ite (fun h2 => Ep.now ?_) (fun h2 => ?_)
      · rw [if_pos h2]
        have : (0 : Int) ≤ i := by omega
        simp
      · rw [if_neg h2]
        exact ih (i + 1) (by omega)
theorem specDebt (p : List Int) (q : Int) (hl : p.length ≤ 1048576) : Ep (fun k => spec_l05Debt.f k p q) (· = decide (0 ≤ debtF q p p.length 0)) := by
  simp only [spec_l05Debt.f]
  exact specDebt_l0 q p hl p.length 0 (by omega)
theorem implDebt_l0 (q : Int) (p : List Int) (hl : p.length ≤ 1048576) : ∀ (d i : Nat), i + d = p.length → Ep (fun k => impl_inDebt.l0 k q p (p.length : Int) (i : Int)) (· = debtF q p d i) := by
  intro d
  induction d with
  | zero =>
    intro i hi
    refine Ep.up ?_
    simp only [impl_inDebt.l0]
    exact Ep.neg (by omega) (Ep.now rfl)
  | succ d ih =>
    intro i hi
    refine Ep.up ?_
    simp only [impl_inDebt.l0]
    refine Ep.pos (by omega) (Ep.pos (by omega) (Ep.pos (by omega) ?_))
    rw [wrap_succ (by omega)]
    unfold debtF
    refine Ep.ite (fun h => ?_) (fun h => ?_)
    · rw [if_pos h]
      exact ih (i + 1) (by omega)
    · rw [if_neg h]
      refine Ep.ite (fun h2 => Ep.now ?_) (fun h2 => ?_)
      · rw [if_pos h2]
      · rw [if_neg h2]
        exact ih (i + 1) (by omega)
theorem implDebt (p : List Int) (q : Int) (hl : p.length ≤ 1048576) : Ep (fun k => impl_inDebt.f k p q) (· = debtF q p p.length 0) := by
  simp only [impl_inDebt.f]
  exact implDebt_l0 q p hl p.length 0 (by omega)
/-- t has been borrowed. -/
def Owed (n : Nat) (es : List E) (q : Int) (d : List Int) (t : Int → Int) : Prop := Legal n es q (dual es (rd d)) t
theorem Owed.zero {n : Nat} {es : List E} {q : Int} {d : List Int} : Owed n es q d (fun _ => 0) := Legal.zero
structure Sec (n : Nat) (es : List E) (q : Int) (d : List Int) (t u : Int → Int) : Prop where
  ow : Owed n es q d t
  sets : Sets n es q (fun v => rd d v + lap es t v) u
theorem Sec.done {n : Nat} {es : List E} {q : Int} (g : Gr n es q) {d : List Int} {t u : Int → Int} (h : Sec n es q d t u) {s x : List Int} (hs : Rep n s (fun w => u w - t w)) (hx : Rep n x (fun w => rd d w + lap es t w - lap es u w)) {b : List Int} (hbu : Burn n es (rd x) q b) (hl : b.length = n) : Reduced n es q d (x, s) := by
  refine ⟨hx.1, hs.1, hbu.red g.hes g.hq hl (fun v v0 v1 v2 => ?_), ?_, fun v v0 v1 => ?_⟩
  · rw [hx.2 v v0 v1]
    exact h.sets.keeps v v0 v1 v2
  · have e : rd s q = u q - t q := hs.2 q g.hq.1 g.hq.2
    show rd s q = 0
    rw [e, h.sets.at_q, h.ow.nonneg.2]
    rfl
  · have e : rd x v = rd d v + lap es t v - lap es u v := hx.2 v v0 v1
    show rd x v = rd d v - lap es (rd s) v
    rw [e, lap_congr g.hes (t := fun w => u w - t w) hs.2, lap_sub]
    omega
end Go.Proofs.Ytjecgolakaiddaa.Cf
end

section
namespace Go.Proofs.Ytjecgolakaiddaa.P
open Go.RowKit Go.Proofs.YtjecgolakaiddaaW.PrintWords Go.Proofs.YtjecgolakaiddaaW.PrintLast Go.Proofs.YtjecgolakaiddaaW.PrintMore
attribute [local go_sem] max2_int min2_int max_two min_two max_three min_three max_four min_four
set_option linter.unusedVariables false
set_option linter.unusedSimpArgs false
def impl_sumOf.l0 : Nat → Int → List Int → Int → Int → Option (Int)
  | 0, _, _, _, _ => none
  | k + 1, x3, x6, x7, x8 => if x8 < x7 then (if 0 ≤ x8 then (if x8 < (x6.length : Int) then (impl_sumOf.l0 k (wrap64 (x3 + (rd x6 x8))) x6 x7 (wrap64 (x8 + 1))) else (none)) else (none)) else (some x3)
def impl_sumOf.f (k : Nat) (l0 : List Int) : Option (Int) := impl_sumOf.l0 k 0 l0 (l0.length : Int) 0
theorem impl_sumOf.mono_l : ∀ k, (∀ y0 y1 y2 y3, LeO (impl_sumOf.l0 k y0 y1 y2 y3) (impl_sumOf.l0 (k + 1) y0 y1 y2 y3))
  | 0 => fun _ _ _ _ r h => by simp [impl_sumOf.l0] at h
  | k + 1 => by
    have ih0 := impl_sumOf.mono_l k
    · intro y0 y1 y2 y3
      unfold impl_sumOf.l0
      exact zm0
theorem impl_sumOf.mono : ∀ a0 k, LeO (impl_sumOf.f k a0) (impl_sumOf.f (k + 1) a0) := by
  intro a0 k; have ih0 := impl_sumOf.mono_l k; unfold impl_sumOf.f; exact zm0
def spec_DegreeOf.l0 : Nat → Int → List Int → Int → Int → Option (Int)
  | 0, _, _, _, _ => none
  | k + 1, x3, x6, x7, x8 => if x8 < x7 then (if 0 ≤ x8 then (if x8 < (x6.length : Int) then (spec_DegreeOf.l0 k (wrap64 (x3 + (rd x6 x8))) x6 x7 (wrap64 (x8 + 1))) else (none)) else (none)) else (some x3)
def spec_DegreeOf.f (k : Nat) (l0 : List Int) : Option (Int) := spec_DegreeOf.l0 k 0 l0 (l0.length : Int) 0
theorem spec_DegreeOf.mono_l : ∀ k, (∀ y0 y1 y2 y3, LeO (spec_DegreeOf.l0 k y0 y1 y2 y3) (spec_DegreeOf.l0 (k + 1) y0 y1 y2 y3))
  | 0 => fun _ _ _ _ r h => by simp [spec_DegreeOf.l0] at h
  | k + 1 => by
    have ih0 := spec_DegreeOf.mono_l k
    · intro y0 y1 y2 y3
      unfold spec_DegreeOf.l0
      exact zm0
theorem spec_DegreeOf.mono : ∀ a0 k, LeO (spec_DegreeOf.f k a0) (spec_DegreeOf.f (k + 1) a0) := by
  intro a0 k; have ih0 := spec_DegreeOf.mono_l k; unfold spec_DegreeOf.f; exact zm0
end Go.Proofs.Ytjecgolakaiddaa.P
end

section
namespace Go.Proofs.Ytjecgolakaiddaa.Cf
set_option linter.unusedVariables false
set_option linter.unusedSimpArgs false
open Go.RowKit Go.Proofs.YtjecgolakaiddaaW.PrintWords Go.Proofs.Ytjecgolakaiddaa.P
/-- The numbers are no greater than a thousand million. -/
def Mod (l : List Int) : Prop := ∀ x ∈ l, -1000000000 ≤ x ∧ x ≤ 1000000000
end Go.Proofs.Ytjecgolakaiddaa.Cf
end

section
namespace Go.Proofs.Ytjecgolakaiddaa.P
open Go.RowKit Go.Proofs.YtjecgolakaiddaaW.PrintWords Go.Proofs.YtjecgolakaiddaaW.PrintLast Go.Proofs.YtjecgolakaiddaaW.PrintMore
attribute [local go_sem] max2_int min2_int max_two min_two max_three min_three max_four min_four
set_option linter.unusedVariables false
set_option linter.unusedSimpArgs false
def spec_Stabilize.f (k : Nat) (a0_0 : Int) (l0_1 : List (S70)) (l1 : List Int) (a2 : Int) : Option (List Int × List Int × Bool) := (spec_PileOk.f k a0_0 l0_1 l1 a2).bind fun t102 => (if t102 = true then ((spec_l10Settle.f k a0_0 l0_1 l1 a2).bind fun bt103 => (some (bt103.1, bt103.2, true))) else (some (([] : List Int), ([] : List Int), false)))
theorem spec_Stabilize.mono : ∀ a0 a1 a2 a3 k, LeO (spec_Stabilize.f k a0 a1 a2 a3) (spec_Stabilize.f (k + 1) a0 a1 a2 a3) := by
  intro a0 a1 a2 a3 k; unfold spec_Stabilize.f; repeat' first | (with_reducible apply spec_PileOk.mono) | (with_reducible apply spec_l10Settle.mono) | (with_reducible exact LeO.refl _) | (with_reducible exact LeO.none _) | (with_reducible refine LeO.ite ?_ ?_) | (with_reducible refine LeO.bind ?_ (fun _ => ?_)) | apply spec_PileOk.mono | apply spec_l10Settle.mono | exact LeO.none _ | refine LeO.ite ?_ ?_ | refine LeO.bind ?_ (fun _ => ?_)
def impl_Stabilize.f (k : Nat) (a0_0 : Int) (l0_1 : List (S70)) (l1 : List Int) (a2 : Int) : Option (List Int × List Int × Bool) := (impl_PileOk.f k a0_0 l0_1 l1 a2).bind fun t102 => (if t102 = true then ((impl_stabilize.f k a0_0 l0_1 l1 a2).bind fun bt103 => (some (bt103.1, bt103.2, true))) else (some (([] : List Int), ([] : List Int), false)))
theorem impl_Stabilize.mono : ∀ a0 a1 a2 a3 k, LeO (impl_Stabilize.f k a0 a1 a2 a3) (impl_Stabilize.f (k + 1) a0 a1 a2 a3) := by
  intro a0 a1 a2 a3 k; unfold impl_Stabilize.f; repeat' first | (with_reducible apply impl_PileOk.mono) | (with_reducible apply impl_stabilize.mono) | (with_reducible exact LeO.refl _) | (with_reducible exact LeO.none _) | (with_reducible refine LeO.ite ?_ ?_) | (with_reducible refine LeO.bind ?_ (fun _ => ?_)) | apply impl_PileOk.mono | apply impl_stabilize.mono | exact LeO.none _ | refine LeO.ite ?_ ?_ | refine LeO.bind ?_ (fun _ => ?_)
def spec_AvalancheSize.f (k : Nat) (a0_0 : Int) (l0_1 : List (S70)) (l1 : List Int) (a2 : Int) : Option (Int) := (spec_Stabilize.f k a0_0 l0_1 l1 a2).bind fun bt102 => (if bt102.2.2 = true then ((spec_DegreeOf.f k bt102.2.1).bind fun t109 => (some t109)) else (some (-1)))
theorem spec_AvalancheSize.mono : ∀ a0 a1 a2 a3 k, LeO (spec_AvalancheSize.f k a0 a1 a2 a3) (spec_AvalancheSize.f (k + 1) a0 a1 a2 a3) := by
  intro a0 a1 a2 a3 k; unfold spec_AvalancheSize.f; repeat' first | (with_reducible apply spec_DegreeOf.mono) | (with_reducible apply spec_Stabilize.mono) | (with_reducible exact LeO.refl _) | (with_reducible exact LeO.none _) | (with_reducible refine LeO.ite ?_ ?_) | (with_reducible refine LeO.bind ?_ (fun _ => ?_)) | apply spec_DegreeOf.mono | apply spec_Stabilize.mono | exact LeO.none _ | refine LeO.ite ?_ ?_ | refine LeO.bind ?_ (fun _ => ?_)
def impl_AvalancheSize.f (k : Nat) (a0_0 : Int) (l0_1 : List (S70)) (l1 : List Int) (a2 : Int) : Option (Int) := (impl_Stabilize.f k a0_0 l0_1 l1 a2).bind fun bt102 => (if bt102.2.2 = true then ((impl_sumOf.f k bt102.2.1).bind fun t109 => (some t109)) else (some (-1)))
theorem impl_AvalancheSize.mono : ∀ a0 a1 a2 a3 k, LeO (impl_AvalancheSize.f k a0 a1 a2 a3) (impl_AvalancheSize.f (k + 1) a0 a1 a2 a3) := by
  intro a0 a1 a2 a3 k; unfold impl_AvalancheSize.f; repeat' first | (with_reducible apply impl_Stabilize.mono) | (with_reducible apply impl_sumOf.mono) | (with_reducible exact LeO.refl _) | (with_reducible exact LeO.none _) | (with_reducible refine LeO.ite ?_ ?_) | (with_reducible refine LeO.bind ?_ (fun _ => ?_)) | apply impl_Stabilize.mono | apply impl_sumOf.mono | exact LeO.none _ | refine LeO.ite ?_ ?_ | refine LeO.bind ?_ (fun _ => ?_)
end Go.Proofs.Ytjecgolakaiddaa.P
end

section
namespace Go.Proofs.Ytjecgolakaiddaa.Cf
set_option linter.unusedVariables false
set_option linter.unusedSimpArgs false
open Go.RowKit Go.Proofs.YtjecgolakaiddaaW.PrintWords Go.Proofs.Ytjecgolakaiddaa.P
/-- The valence minus 1, 0 at q. -/
def fullAt (n : Int) (es : List E) (q : Int) (i : Nat) : Int := if (i : Int) = q then 0 else valG n es i - 1
def fullL (n : Int) (es : List E) (q : Int) : List Int := (List.range n.toNat).map (fullAt n es q)
/-- FullPile. -/
def fullP (n : Int) (es : List E) (q : Int) : List Int := if gOk n es = true ∧ 0 ≤ q ∧ q < n then fullL n es q else []
theorem fullP_len6 (n : Int) (es : List E) (q : Int) : (fullP n es q).length ≤ 6 := by
  unfold fullP
  split
  · rename_i h
    have := (gOk_iff.1 h.1).1.2.1
    simp [fullL]
    omega
  · simp
theorem valG_bd {n : Int} {es : List E} {v : Int} : 0 ≤ valG n es v ∧ valG n es v ≤ es.length := by
  unfold valG
  split
  · exact ⟨val_nonneg es v, val_le es v⟩
  · omega
theorem map_take_succ {α : Type} (f : Nat → α) (n i : Nat) (h : i < n) : ((List.range n).map f).take (i + 1) = ((List.range n).map f).take i ++ [f i] := by
  rw [List.take_succ_eq_append_getElem (by simpa using h)]
  simp
theorem specFull_l0 (n : Nat) (es : List E) (q : Int) (hn : n ≤ 6) (hel : es.length ≤ 12) : ∀ (d i : Nat), i + d = n → Ep (fun k => spec_FullPile.l0 k q ((fullL n es q).take i) (i : Int) (n : Int) es) (· = fullL n es q) := by
  intro d
  have hL : (fullL n es q).length = n := by simp [fullL]
  induction d with
  | zero =>
    intro i hi
    refine Ep.up ?_
    simp only [spec_FullPile.l0]
    refine Ep.neg (by omega) (Ep.now ?_)
    rw [List.take_of_length_le (by omega)]
  | succ d ih =>
    intro i hi
    have ht : (fullL n es q).take (i + 1) = (fullL n es q).take i ++ [fullAt n es q i] := by
      unfold fullL
      rw [Int.toNat_natCast]
      exact map_take_succ _ n i (by omega)
    have hlen : ((fullL n es q).take i).length < 17592186044416 := by rw [List.length_take]; omega
    have ih' := ih (i + 1) (by omega)
    rw [ht] at ih'
    refine Ep.up ?_
    simp only [spec_FullPile.l0]
    rw [wrap_succ (by omega)]
    refine Ep.pos (by omega) (Ep.ite (fun h => Ep.pos hlen ?_) (fun h => ?_))
    · unfold fullAt at ih'
      rw [if_pos h] at ih'
      exact ih'
    · refine Ep.bind (specValence n es i (by omega)) ?_
      rintro _ rfl
      have := valG_bd (n := n) (es := es) (v := i)
      rw [wrap_id (by omega) (by omega)]
      unfold fullAt at ih'
      rw [if_neg h] at ih'
      exact Ep.pos hlen ih'
theorem specFull (n : Int) (es : List E) (q : Int) : Ep (fun k => spec_FullPile.f k n es q) (· = fullP n es q) := by
  simp only [spec_FullPile.f]
  refine Ep.bind (specGraph n es) ?_
  rintro _ rfl
  refine Ep.ite (fun hg => ?_) (fun hg => ?_)
  · have hG1 := (gOk_true hg).1
    unfold EsOk at hG1
    rw [wrap_id (x := n - 1) (by omega) (by omega)]
    refine Ep.bind0 (l01In_eq _ _ _) ?_
    refine Ep.up ?_
    simp only [spec_FullPile.j0]
    refine Ep.ite (fun h => Ep.now ?_) (fun h => ?_)
    · have h' : ¬ (0 ≤ q ∧ q ≤ n - 1) := by
        intro x
        simp [x] at h
      unfold fullP
      rw [if_neg (fun x => h' (by omega))]
    · have h' : 0 ≤ q ∧ q ≤ n - 1 := by simpa using h
      unfold fullP
      rw [if_pos ⟨hg, by omega, by omega⟩]
      obtain ⟨m, rfl⟩ := Int.eq_ofNat_of_zero_le (a := n) (by omega)
      exact specFull_l0 m es q (by omega) hG1.2.2.1 m 0 (by omega)
  · refine Ep.up ?_
    simp only [spec_FullPile.j0]
    refine Ep.pos trivial (Ep.now ?_)
    unfold fullP
    rw [if_neg (fun x => hg x.1)]
theorem implFull_l0 (n : Nat) (es : List E) (q : Int) (hn : n ≤ 6) (hel : es.length ≤ 12) : ∀ (d i : Nat) (x : List Int), i + d = n → x.length = n → (∀ j, j < i → x[j]? = (fullL n es q)[j]?) → (∀ j, i ≤ j → j < n → x[j]? = some 0) → Ep (fun k => impl_FullPile.l0 k q x (n : Int) (i : Int) (n : Int) es) (· = fullL n es q) := by
  intro d
  have hL : (fullL n es q).length = n := by simp [fullL]
  have hget : ∀ j, j < n → (fullL n es q)[j]? = some (fullAt n es q j) := fun j hj => by simp [fullL, hj]
  induction d with
  | zero =>
    intro i x hi hx hd _
    refine Ep.up ?_
    simp only [impl_FullPile.l0]
    refine Ep.neg (by omega) (Ep.now ?_)
    apply List.ext_getElem?
    intro j
    by_cases hj : j < i
    · exact hd j hj
    · rw [List.getElem?_eq_none (by omega), List.getElem?_eq_none (by omega)]
  | succ d ih =>
    intro i x hi hx hd hz
    refine Ep.up ?_
    simp only [impl_FullPile.l0]
    rw [wrap_succ (by omega)]
    refine Ep.pos (by omega) (Ep.ite (fun h => ?_) (fun h => ?_))
    · refine ih (i + 1) x (by omega) hx ?_ (fun j hj => hz j (by omega))
      intro j hj
      by_cases e : j = i
      · subst e
        rw [hz j (Nat.le_refl _) (by omega), hget j (by omega)]
        unfold fullAt
        rw [if_pos h]
      · exact hd j (by omega)
    · refine Ep.bind (implValence n es i (by omega)) ?_
      rintro _ rfl
      have := valG_bd (n := n) (es := es) (v := i)
      rw [wrap_id (x := valG (n : Int) es i - 1) (by omega) (by omega), Int.toNat_natCast]
      refine Ep.pos (by omega) (Ep.pos (by omega) (ih (i + 1) _ (by omega) (by simpa using hx) ?_ ?_))
      · intro j hj
        by_cases e : i = j
        · subst e
          rw [List.getElem?_set_self (by omega), hget i (by omega)]
          unfold fullAt
          rw [if_neg h]
        · rw [List.getElem?_set_ne e]
          exact hd j (by omega)
      · intro j hj hjn
        rw [List.getElem?_set_ne (by omega)]
        exact hz j (by omega) hjn
theorem implFull (n : Int) (es : List E) (q : Int) (hn : Wf .i64 n) : Ep (fun k => impl_FullPile.f k n es q) (· = fullP n es q) := by
  simp only [impl_FullPile.f]
  refine Ep.bind0 (isVertex_eq n es q hn) ?_
  refine Ep.ite (fun h => ?_) (fun h => Ep.now ?_)
  · have h' : gOk n es = true ∧ 0 ≤ q ∧ q < n := by simpa using h
    have hG1 := (gOk_true h'.1).1
    unfold EsOk at hG1
    unfold fullP
    rw [if_pos h']
    obtain ⟨m, rfl⟩ := Int.eq_ofNat_of_zero_le (a := n) (by omega)
    refine Ep.pos (by omega) (Ep.pos (by simp; omega) (Ep.bind0 rfl ?_))
    have := implFull_l0 m es q (by omega) hG1.2.2.1 m 0 (List.replicate m 0) (by omega) (by simp) (fun j hj => by omega) (fun j _ hj => by simp [hj])
    simpa using this
  · unfold fullP
    rw [if_neg (fun x => h (by rw [x.1]; simpa using x.2))]
end Go.Proofs.Ytjecgolakaiddaa.Cf
end

section
namespace Go.Proofs.Ytjecgolakaiddaa.P
open Go.RowKit Go.Proofs.YtjecgolakaiddaaW.PrintWords Go.Proofs.YtjecgolakaiddaaW.PrintLast Go.Proofs.YtjecgolakaiddaaW.PrintMore
attribute [local go_sem] max2_int min2_int max_two min_two max_three min_three max_four min_four
set_option linter.unusedVariables false
set_option linter.unusedSimpArgs false
def spec_AddDivisors.l0 : Nat → List Int → List Int → List Int → Int → Int → Option (List Int × Bool)
  | 0, _, _, _, _, _ => none
  | k + 1, x1, x6, x15, x16, x17 => if x17 < x16 then (if 0 ≤ x17 then (if x17 < (x15.length : Int) then (if x17 < (x1.length : Int) then (if x6.length < 17592186044416 then (spec_AddDivisors.l0 k x1 (x6 ++ [wrap64 ((rd x15 x17) + (rd x1 x17))]) x15 x16 (wrap64 (x17 + 1))) else (none)) else (none)) else (none)) else (none)) else (some (x6, true))
def spec_AddDivisors.f (k : Nat) (l0 : List Int) (l1 : List Int) : Option (List Int × Bool) := if (l0.length : Int) = (l1.length : Int) then (spec_AddDivisors.l0 k l1 (([] : List Int)) l0 (l0.length : Int) 0) else (some (([] : List Int), false))
theorem spec_AddDivisors.mono_l : ∀ k, (∀ y0 y1 y2 y3 y4, LeO (spec_AddDivisors.l0 k y0 y1 y2 y3 y4) (spec_AddDivisors.l0 (k + 1) y0 y1 y2 y3 y4))
  | 0 => fun _ _ _ _ _ r h => by simp [spec_AddDivisors.l0] at h
  | k + 1 => by
    have ih0 := spec_AddDivisors.mono_l k
    · intro y0 y1 y2 y3 y4
      unfold spec_AddDivisors.l0
      exact zm0
theorem spec_AddDivisors.mono : ∀ a0 a1 k, LeO (spec_AddDivisors.f k a0 a1) (spec_AddDivisors.f (k + 1) a0 a1) := by
  intro a0 a1 k; have ih0 := spec_AddDivisors.mono_l k; unfold spec_AddDivisors.f; exact zm0
def spec_NegateDivisor.l0 : Nat → List Int → List Int → Int → Int → Option (List Int)
  | 0, _, _, _, _ => none
  | k + 1, x3, x7, x8, x9 => if x9 < x8 then (if 0 ≤ x9 then (if x9 < (x7.length : Int) then (if x3.length < 17592186044416 then (spec_NegateDivisor.l0 k (x3 ++ [wrap64 (-(rd x7 x9))]) x7 x8 (wrap64 (x9 + 1))) else (none)) else (none)) else (none)) else (some x3)
def spec_NegateDivisor.f (k : Nat) (l0 : List Int) : Option (List Int) := spec_NegateDivisor.l0 k (([] : List Int)) l0 (l0.length : Int) 0
theorem spec_NegateDivisor.mono_l : ∀ k, (∀ y0 y1 y2 y3, LeO (spec_NegateDivisor.l0 k y0 y1 y2 y3) (spec_NegateDivisor.l0 (k + 1) y0 y1 y2 y3))
  | 0 => fun _ _ _ _ r h => by simp [spec_NegateDivisor.l0] at h
  | k + 1 => by
    have ih0 := spec_NegateDivisor.mono_l k
    · intro y0 y1 y2 y3
      unfold spec_NegateDivisor.l0
      exact zm0
theorem spec_NegateDivisor.mono : ∀ a0 k, LeO (spec_NegateDivisor.f k a0) (spec_NegateDivisor.f (k + 1) a0) := by
  intro a0 k; have ih0 := spec_NegateDivisor.mono_l k; unfold spec_NegateDivisor.f; exact zm0
def slices_Equal_int_int.l0 : Nat → List Int → List Int → Int → Int → Option (Bool)
  | 0, _, _, _, _ => none
  | k + 1, x0, x1, x12, x13 => if x13 < x12 then (if 0 ≤ x13 then (if x13 < (x0.length : Int) then (if x13 < (x1.length : Int) then (if (rd x0 x13) = (rd x1 x13) then (slices_Equal_int_int.l0 k x0 x1 x12 (wrap64 (x13 + 1))) else (some false)) else (none)) else (none)) else (none)) else (some true)
def slices_Equal_int_int.f (k : Nat) (l0 : List Int) (l1 : List Int) : Option (Bool) := if (l0.length : Int) = (l1.length : Int) then (slices_Equal_int_int.l0 k l0 l1 (l0.length : Int) 0) else (some false)
theorem slices_Equal_int_int.mono_l : ∀ k, (∀ y0 y1 y2 y3, LeO (slices_Equal_int_int.l0 k y0 y1 y2 y3) (slices_Equal_int_int.l0 (k + 1) y0 y1 y2 y3))
  | 0 => fun _ _ _ _ r h => by simp [slices_Equal_int_int.l0] at h
  | k + 1 => by
    have ih0 := slices_Equal_int_int.mono_l k
    · intro y0 y1 y2 y3
      unfold slices_Equal_int_int.l0
      exact zm0
theorem slices_Equal_int_int.mono : ∀ a0 a1 k, LeO (slices_Equal_int_int.f k a0 a1) (slices_Equal_int_int.f (k + 1) a0 a1) := by
  intro a0 a1 k; have ih0 := slices_Equal_int_int.mono_l k; unfold slices_Equal_int_int.f; exact zm0
def impl_SameDivisor.f (k : Nat) (l0 : List Int) (l1 : List Int) : Option (Bool) := (slices_Equal_int_int.f k l0 l1).bind fun t101 => (some t101)
theorem impl_SameDivisor.mono : ∀ a0 a1 k, LeO (impl_SameDivisor.f k a0 a1) (impl_SameDivisor.f (k + 1) a0 a1) := by
  intro a0 a1 k; unfold impl_SameDivisor.f; repeat' first | (with_reducible apply slices_Equal_int_int.mono) | (with_reducible exact LeO.refl _) | (with_reducible exact LeO.none _) | (with_reducible refine LeO.ite ?_ ?_) | (with_reducible refine LeO.bind ?_ (fun _ => ?_)) | apply slices_Equal_int_int.mono | exact LeO.none _ | refine LeO.ite ?_ ?_ | refine LeO.bind ?_ (fun _ => ?_)
def spec_SameDivisor.l0 : Nat → List Int → List Int → Int → Int → Option (Bool)
  | 0, _, _, _, _ => none
  | k + 1, x1, x12, x13, x14 => if x14 < x13 then (if 0 ≤ x14 then (if x14 < (x12.length : Int) then (if x14 < (x1.length : Int) then (if (rd x12 x14) = (rd x1 x14) then (spec_SameDivisor.l0 k x1 x12 x13 (wrap64 (x14 + 1))) else (some false)) else (none)) else (none)) else (none)) else (some true)
def spec_SameDivisor.f (k : Nat) (l0 : List Int) (l1 : List Int) : Option (Bool) := if (l0.length : Int) = (l1.length : Int) then (spec_SameDivisor.l0 k l1 l0 (l0.length : Int) 0) else (some false)
theorem spec_SameDivisor.mono_l : ∀ k, (∀ y0 y1 y2 y3, LeO (spec_SameDivisor.l0 k y0 y1 y2 y3) (spec_SameDivisor.l0 (k + 1) y0 y1 y2 y3))
  | 0 => fun _ _ _ _ r h => by simp [spec_SameDivisor.l0] at h
  | k + 1 => by
    have ih0 := spec_SameDivisor.mono_l k
    · intro y0 y1 y2 y3
      unfold spec_SameDivisor.l0
      exact zm0
theorem spec_SameDivisor.mono : ∀ a0 a1 k, LeO (spec_SameDivisor.f k a0 a1) (spec_SameDivisor.f (k + 1) a0 a1) := by
  intro a0 a1 k; have ih0 := spec_SameDivisor.mono_l k; unfold spec_SameDivisor.f; exact zm0
end Go.Proofs.Ytjecgolakaiddaa.P
end

section
namespace Go.Proofs.Ytjecgolakaiddaa.Cf
set_option linter.unusedVariables false
set_option linter.unusedSimpArgs false
open Go.RowKit Go.Proofs.YtjecgolakaiddaaW.PrintWords Go.Proofs.Ytjecgolakaiddaa.P
theorem repL_take {n i : Nat} (f : Int → Int) (h : i < n) : (repL n f).take (i + 1) = (repL n f).take i ++ [f (i : Int)] := by
  unfold repL
  exact map_take_succ (fun j : Nat => f (j : Int)) n i h
theorem repL_congr {n : Nat} {f g : Int → Int} (h : ∀ w : Int, 0 ≤ w → w < n → f w = g w) : repL n f = repL n g := ((repL_rep n f).congr h).eq
def plusL (a b : List Int) : List Int := repL a.length fun w => rd a w + rd b w
def minL (a b : List Int) : List Int := repL a.length fun w => rd a w - rd b w
def negL (a : List Int) : List Int := repL a.length fun w => - rd a w
theorem plus_neg {a b : List Int} (h : a.length = b.length) : plusL a (negL b) = minL a b := by
  unfold plusL minL
  refine repL_congr fun w h0 h1 => ?_
  have : rd (negL b) w = - rd b w := (repL_rep b.length _).2 w h0 (by omega)
  rw [this]
  omega
theorem implPlus_l0 (a b : List Int) (n : Nat) (hn : n ≤ 1048576) (ha : a.length = n) (hb : b.length = n) (ba : Bd a 1000000000) (bb : Bd b 1000000000) : ∀ (d i : Nat) (x : List Int), i + d = n → Rep n x (fun w => if w < i then rd a w + rd b w else rd a w) → Ep (fun k => impl_plus.l0 k b x (n : Int) (i : Int)) (· = plusL a b) := by
  intro d
  induction d with
  | zero =>
    intro i x hi hx
    obtain rfl : i = n := by omega
    refine Ep.up ?_
    simp only [impl_plus.l0]
    refine Ep.neg (by omega) (Ep.now ?_)
    unfold plusL
    rw [ha]
    exact (hx.congr fun w _ w1 => by rw [if_pos w1]).eq
  | succ d ih =>
    intro i x hi hx
    have hxl := hx.1
    have h1 := ba i (by omega) (by omega)
    have h2 := bb i (by omega) (by omega)
    have hxi : rd x (i : Int) = rd a (i : Int) := by
      have h9 := hx.2 i (by omega) (by omega)
      simp only [if_neg (show ¬ (i : Int) < i by omega)] at h9
      exact h9
    refine Ep.up ?_
    simp only [impl_plus.l0]
    refine Ep.pos (by omega) (Ep.pos (by omega) (Ep.pos (by omega) (Ep.pos (by omega) ?_)))
    rw [wrap_succ (by omega), hxi, wrap_id (by omega) (by omega)]
    refine ih (i + 1) _ (by omega) ((hx.set (v := (i : Int)) (by omega) (by omega) _).congr fun w _ _ => ?_)
    by_cases e : w = i
    · rw [if_pos e, if_pos (by omega), e]
    · rw [if_neg e]
      by_cases e2 : w < i
      · rw [if_pos e2, if_pos (by omega)]
      · rw [if_neg e2, if_neg (by omega)]
theorem implPlus (a b : List Int) (hl : a.length ≤ 1048576) (hab : a.length = b.length) (ba : Bd a 1000000000) (bb : Bd b 1000000000) : Ep (fun k => impl_plus.f k a b) (· = plusL a b) := by
  simp only [impl_plus.f]
  refine Ep.bind0 (copy_eq a hl) ?_
  exact implPlus_l0 a b a.length hl rfl hab.symm ba bb a.length 0 a (by omega) ((Rep.self rfl).congr fun w w0 _ => by rw [if_neg (by omega)])
theorem specMinus_l0 (a b : List Int) (n : Nat) (hn : n ≤ 1048576) (ha : a.length = n) (hb : b.length = n) (ba : Bd a 1000000000) (bb : Bd b 1000000000) : ∀ (d i : Nat), i + d = n → Ep (fun k => spec_l07Minus.l0 k b ((minL a b).take i) a (n : Int) (i : Int)) (· = minL a b) := by
  intro d
  have hL : (minL a b).length = n := by simp [minL, repL_len, ha]
  induction d with
  | zero =>
    intro i hi
    refine Ep.up ?_
    simp only [spec_l07Minus.l0]
    refine Ep.neg (by omega) (Ep.now ?_)
    rw [List.take_of_length_le (by omega)]
  | succ d ih =>
    intro i hi
    have h1 := ba i (by omega) (by omega)
    have h2 := bb i (by omega) (by omega)
    have hlen : ((minL a b).take i).length < 17592186044416 := by rw [List.length_take]; omega
    have ih' := ih (i + 1) (by omega)
    have ht : (minL a b).take (i + 1) = (minL a b).take i ++ [rd a (i : Int) - rd b (i : Int)] := repL_take _ (by omega)
    rw [ht] at ih'
    refine Ep.up ?_
    simp only [spec_l07Minus.l0]
    rw [wrap_succ (by omega), wrap_id (x := rd a (i : Int) - rd b (i : Int)) (by omega) (by omega)]
    exact Ep.pos (by omega) (Ep.pos (by omega) (Ep.pos (by omega) (Ep.pos (by omega) (Ep.pos hlen ih'))))
theorem specMinus (a b : List Int) (hl : a.length ≤ 1048576) (hab : a.length = b.length) (ba : Bd a 1000000000) (bb : Bd b 1000000000) : Ep (fun k => spec_l07Minus.f k a b) (· = minL a b) := by
  simp only [spec_l07Minus.f]
  have := specMinus_l0 a b a.length hl rfl hab.symm ba bb a.length 0 (by omega)
  simpa using this
theorem implNeg_l0 (a : List Int) (n : Nat) (hn : n ≤ 1048576) (ha : a.length = n) (ba : Bd a 1000000000) : ∀ (d i : Nat) (x : List Int), i + d = n → Rep n x (fun w => if w < i then - rd a w else rd a w) → Ep (fun k => impl_NegateDivisor.l0 k x (n : Int) (i : Int)) (· = negL a) := by
  intro d
  induction d with
  | zero =>
    intro i x hi hx
    obtain rfl : i = n := by omega
    refine Ep.up ?_
    simp only [impl_NegateDivisor.l0]
    refine Ep.neg (by omega) (Ep.now ?_)
    unfold negL
    rw [ha]
    exact (hx.congr fun w _ w1 => by rw [if_pos w1]).eq
  | succ d ih =>
    intro i x hi hx
    have hxl := hx.1
    have h1 := ba i (by omega) (by omega)
    have hxi : rd x (i : Int) = rd a (i : Int) := by
      have h9 := hx.2 i (by omega) (by omega)
      simp only [if_neg (show ¬ (i : Int) < i by omega)] at h9
      exact h9
    refine Ep.up ?_
    simp only [impl_NegateDivisor.l0]
    refine Ep.pos (by omega) (Ep.pos (by omega) (Ep.pos (by omega) ?_))
    rw [wrap_succ (by omega), hxi, wrap_id (by omega) (by omega)]
    refine ih (i + 1) _ (by omega) ((hx.set (v := (i : Int)) (by omega) (by omega) _).congr fun w _ _ => ?_)
    by_cases e : w = i
    · rw [if_pos e, if_pos (by omega), e]
    · rw [if_neg e]
      by_cases e2 : w < i
      · rw [if_pos e2, if_pos (by omega)]
      · rw [if_neg e2, if_neg (by omega)]
theorem implNeg (a : List Int) (hl : a.length ≤ 1048576) (ba : Bd a 1000000000) : Ep (fun k => impl_NegateDivisor.f k a) (· = negL a) := by
  simp only [impl_NegateDivisor.f]
  refine Ep.bind0 (copy_eq a hl) ?_
  exact implNeg_l0 a a.length hl rfl ba a.length 0 a (by omega) ((Rep.self rfl).congr fun w w0 _ => by rw [if_neg (by omega)])
theorem negL_len (a : List Int) : (negL a).length = a.length := by simp [negL, repL_len]
theorem minL_len (a b : List Int) : (minL a b).length = a.length := by simp [minL, repL_len]
theorem negL_bd {a : List Int} {B : Int} (h : Bd a B) : Bd (negL a) B := (repL_rep a.length _).bd fun w h0 h1 => by have := h w h0 h1; omega
end Go.Proofs.Ytjecgolakaiddaa.Cf
end

section
namespace Go.Proofs.Ytjecgolakaiddaa.P
open Go.RowKit Go.Proofs.YtjecgolakaiddaaW.PrintWords Go.Proofs.YtjecgolakaiddaaW.PrintLast Go.Proofs.YtjecgolakaiddaaW.PrintMore
attribute [local go_sem] max2_int min2_int max_two min_two max_three min_three max_four min_four
set_option linter.unusedVariables false
set_option linter.unusedSimpArgs false
def impl_oneAt.f (a0_0 : Int) (l0_1 : List (S70)) (a1 : Int) (a2 : Int) : Option (List Int) := if 0 ≤ a0_0 then (if (a0_0 : Int).toNat ≤ 35184372088832 then ((some (List.replicate (a0_0 : Int).toNat 0 : List Int)).bind fun y102 => (if 0 ≤ a1 then (if a1 < (y102.length : Int) then (some (y102.set (a1 : Int).toNat a2)) else (none)) else (none))) else (none)) else (none)
def spec_SumOfPiles.j0 : Nat → List Int → List Int → Int → Bool → Int → List (S70) → Option (List Int × Bool)
  | 0, _, _, _, _, _, _ => none
  | k + 1, x1, x2, x3, x26, x102000, x102001 => if x26 = true then (some (([] : List Int), false)) else ((spec_AddDivisors.f k x1 x2).bind fun bt104 => ((spec_Stabilize.f k x102000 x102001 bt104.1 x3).bind fun bt108 => (some (bt108.1, bt108.2.2))))
def spec_SumOfPiles.f (k : Nat) (a0_0 : Int) (l0_1 : List (S70)) (l1 : List Int) (l2 : List Int) (a3 : Int) : Option (List Int × Bool) := (spec_PileOk.f k a0_0 l0_1 l1 a3).bind fun t102 => (if t102 = true then ((spec_PileOk.f k a0_0 l0_1 l2 a3).bind fun t103 => (spec_SumOfPiles.j0 k l1 l2 a3 (!t103) a0_0 l0_1)) else (spec_SumOfPiles.j0 k l1 l2 a3 true a0_0 l0_1))
theorem spec_SumOfPiles.mono_l : ∀ k, (∀ y0 y1 y2 y3 y4 y5, LeO (spec_SumOfPiles.j0 k y0 y1 y2 y3 y4 y5) (spec_SumOfPiles.j0 (k + 1) y0 y1 y2 y3 y4 y5))
  | 0 => fun _ _ _ _ _ _ r h => by simp [spec_SumOfPiles.j0] at h
  | k + 1 => by
    have ih0 := spec_SumOfPiles.mono_l k
    · intro y0 y1 y2 y3 y4 y5
      unfold spec_SumOfPiles.j0
      exact zm16
theorem spec_SumOfPiles.mono : ∀ a0 a1 a2 a3 a4 k, LeO (spec_SumOfPiles.f k a0 a1 a2 a3 a4) (spec_SumOfPiles.f (k + 1) a0 a1 a2 a3 a4) := by
  intro a0 a1 a2 a3 a4 k; have ih0 := spec_SumOfPiles.mono_l k; unfold spec_SumOfPiles.f; exact zm16
def impl_SumOfPiles.j0 : Nat → List Int → List Int → Int → Bool → Int → List (S70) → Option (List Int × Bool)
  | 0, _, _, _, _, _, _ => none
  | k + 1, x1, x2, x3, x32, x102000, x102001 => if x32 = true then (some (([] : List Int), false)) else ((impl_plus.f k x1 x2).bind fun t108 => ((impl_stabilize.f k x102000 x102001 t108 x3).bind fun bt111 => (some (bt111.1, true))))
def impl_SumOfPiles.f (k : Nat) (a0_0 : Int) (l0_1 : List (S70)) (l1 : List Int) (l2 : List Int) (a3 : Int) : Option (List Int × Bool) := (impl_PileOk.f k a0_0 l0_1 l1 a3).bind fun t102 => (if t102 = true then ((impl_PileOk.f k a0_0 l0_1 l2 a3).bind fun t103 => (if t103 = true then ((impl_plus.f k l1 l2).bind fun t104 => ((impl_PileOk.f k a0_0 l0_1 t104 a3).bind fun t107 => (impl_SumOfPiles.j0 k l1 l2 a3 (!t107) a0_0 l0_1))) else (impl_SumOfPiles.j0 k l1 l2 a3 true a0_0 l0_1))) else (impl_SumOfPiles.j0 k l1 l2 a3 true a0_0 l0_1))
theorem impl_SumOfPiles.mono_l : ∀ k, (∀ y0 y1 y2 y3 y4 y5, LeO (impl_SumOfPiles.j0 k y0 y1 y2 y3 y4 y5) (impl_SumOfPiles.j0 (k + 1) y0 y1 y2 y3 y4 y5))
  | 0 => fun _ _ _ _ _ _ r h => by simp [impl_SumOfPiles.j0] at h
  | k + 1 => by
    have ih0 := impl_SumOfPiles.mono_l k
    · intro y0 y1 y2 y3 y4 y5
      unfold impl_SumOfPiles.j0
      exact zm18
theorem impl_SumOfPiles.mono : ∀ a0 a1 a2 a3 a4 k, LeO (impl_SumOfPiles.f k a0 a1 a2 a3 a4) (impl_SumOfPiles.f (k + 1) a0 a1 a2 a3 a4) := by
  intro a0 a1 a2 a3 a4 k; have ih0 := impl_SumOfPiles.mono_l k; unfold impl_SumOfPiles.f; exact zm18
def spec_l11Lit.l0 : Nat → Int → List Int → List Int → Int → Int → Int → List (S70) → Option (List Int)
  | 0, _, _, _, _, _, _, _ => none
  | k + 1, x2, x7, x11, x12, x13, x102000, x102001 => if x13 < x12 then (if 0 ≤ x13 then (if x13 < (x11.length : Int) then ((spec_Multiplicity.f k x102000 x102001 x2 x13).bind fun t106 => (if x7.length < 17592186044416 then (spec_l11Lit.l0 k x2 (x7 ++ [wrap64 ((rd x11 x13) + t106)]) x11 x12 (wrap64 (x13 + 1)) x102000 x102001) else (none))) else (none)) else (none)) else (some x7)
def spec_l11Lit.f (k : Nat) (a0_0 : Int) (l0_1 : List (S70)) (l1 : List Int) (a2 : Int) : Option (List Int) := spec_l11Lit.l0 k a2 (([] : List Int)) l1 (l1.length : Int) 0 a0_0 l0_1
theorem spec_l11Lit.mono_l : ∀ k, (∀ y0 y1 y2 y3 y4 y5 y6, LeO (spec_l11Lit.l0 k y0 y1 y2 y3 y4 y5 y6) (spec_l11Lit.l0 (k + 1) y0 y1 y2 y3 y4 y5 y6))
  | 0 => fun _ _ _ _ _ _ _ r h => by simp [spec_l11Lit.l0] at h
  | k + 1 => by
    have ih0 := spec_l11Lit.mono_l k
    · intro y0 y1 y2 y3 y4 y5 y6
      unfold spec_l11Lit.l0
      exact zm25
theorem spec_l11Lit.mono : ∀ a0 a1 a2 a3 k, LeO (spec_l11Lit.f k a0 a1 a2 a3) (spec_l11Lit.f (k + 1) a0 a1 a2 a3) := by
  intro a0 a1 a2 a3 k; have ih0 := spec_l11Lit.mono_l k; unfold spec_l11Lit.f; exact zm25
def spec_IsRecurrent.l0 : Nat → List Int → Int → List Int → List Int → Int → Int → Option (Bool)
  | 0, _, _, _, _, _, _ => none
  | k + 1, x1, x2, x7, x26, x27, x28 => if x28 < x27 then (if 0 ≤ x28 then (if x28 < (x26.length : Int) then (if x28 = x2 then (spec_IsRecurrent.l0 k x1 x2 x7 x26 x27 (wrap64 (x28 + 1))) else (if (rd x26 x28) = 1 then (spec_IsRecurrent.l0 k x1 x2 x7 x26 x27 (wrap64 (x28 + 1))) else (some false))) else (none)) else (none)) else ((spec_SameDivisor.f k x7 x1).bind fun t113 => (some t113))
def spec_IsRecurrent.f (k : Nat) (a0_0 : Int) (l0_1 : List (S70)) (l1 : List Int) (a2 : Int) : Option (Bool) := (spec_IsStable.f k a0_0 l0_1 l1 a2).bind fun t102 => (if t102 = true then ((spec_l11Lit.f k a0_0 l0_1 l1 a2).bind fun t103 => ((spec_l10Settle.f k a0_0 l0_1 t103 a2).bind fun bt106 => (spec_IsRecurrent.l0 k l1 a2 bt106.1 bt106.2 (bt106.2.length : Int) 0))) else (some false))
theorem spec_IsRecurrent.mono_l : ∀ k, (∀ y0 y1 y2 y3 y4 y5, LeO (spec_IsRecurrent.l0 k y0 y1 y2 y3 y4 y5) (spec_IsRecurrent.l0 (k + 1) y0 y1 y2 y3 y4 y5))
  | 0 => fun _ _ _ _ _ _ r h => by simp [spec_IsRecurrent.l0] at h
  | k + 1 => by
    have ih0 := spec_IsRecurrent.mono_l k
    · intro y0 y1 y2 y3 y4 y5
      unfold spec_IsRecurrent.l0
      exact zm14
theorem spec_IsRecurrent.mono : ∀ a0 a1 a2 a3 k, LeO (spec_IsRecurrent.f k a0 a1 a2 a3) (spec_IsRecurrent.f (k + 1) a0 a1 a2 a3) := by
  intro a0 a1 a2 a3 k; have ih0 := spec_IsRecurrent.mono_l k; unfold spec_IsRecurrent.f; exact zm14
def impl_IsRecurrent.l0 : Nat → List Int → Int → List Int → List Int → Int → Int → Option (Bool)
  | 0, _, _, _, _, _, _ => none
  | k + 1, x1, x2, x8, x33, x34, x35 => if x35 < x34 then (if 0 ≤ x35 then (if x35 < (x33.length : Int) then (if x35 = x2 then (impl_IsRecurrent.l0 k x1 x2 x8 x33 x34 (wrap64 (x35 + 1))) else (if (rd x33 x35) = 1 then (impl_IsRecurrent.l0 k x1 x2 x8 x33 x34 (wrap64 (x35 + 1))) else (some false))) else (none)) else (none)) else ((impl_SameDivisor.f k x8 x1).bind fun t115 => (some t115))
def impl_IsRecurrent.f (k : Nat) (a0_0 : Int) (l0_1 : List (S70)) (l1 : List Int) (a2 : Int) : Option (Bool) := (impl_IsStable.f k a0_0 l0_1 l1 a2).bind fun t102 => (if t102 = true then ((impl_copyInts.f l1).bind fun t103 => ((impl_fire.f k a0_0 l0_1 t103 a2 1).bind fun t106 => (if 0 ≤ a2 then (if a2 < (t103.length : Int) then ((impl_stabilize.f k a0_0 l0_1 (t106.set (a2 : Int).toNat 0) a2).bind fun bt108 => (impl_IsRecurrent.l0 k l1 a2 bt108.1 bt108.2 (bt108.2.length : Int) 0)) else (none)) else (none)))) else (some false))
theorem impl_IsRecurrent.mono_l : ∀ k, (∀ y0 y1 y2 y3 y4 y5, LeO (impl_IsRecurrent.l0 k y0 y1 y2 y3 y4 y5) (impl_IsRecurrent.l0 (k + 1) y0 y1 y2 y3 y4 y5))
  | 0 => fun _ _ _ _ _ _ r h => by simp [impl_IsRecurrent.l0] at h
  | k + 1 => by
    have ih0 := impl_IsRecurrent.mono_l k
    · intro y0 y1 y2 y3 y4 y5
      unfold impl_IsRecurrent.l0
      exact zm15
theorem impl_IsRecurrent.mono : ∀ a0 a1 a2 a3 k, LeO (impl_IsRecurrent.f k a0 a1 a2 a3) (impl_IsRecurrent.f (k + 1) a0 a1 a2 a3) := by
  intro a0 a1 a2 a3 k; have ih0 := impl_IsRecurrent.mono_l k; unfold impl_IsRecurrent.f; exact zm15
end Go.Proofs.Ytjecgolakaiddaa.P
end

section
namespace Go.Proofs.Ytjecgolakaiddaa.Cf
set_option linter.unusedVariables false
set_option linter.unusedSimpArgs false
open Go.RowKit Go.Proofs.YtjecgolakaiddaaW.PrintWords Go.Proofs.Ytjecgolakaiddaa.P
theorem Bd.of60 {p : List Int} (h : ∀ x ∈ p, -60 ≤ x ∧ x ≤ 60) : Bd p 60 := fun w h0 h1 => by
  obtain ⟨i, rfl⟩ := Int.eq_ofNat_of_zero_le h0
  have hi : i < p.length := by omega
  rw [rd_get hi]
  exact h _ (List.getElem_mem hi)
end Go.Proofs.Ytjecgolakaiddaa.Cf
end

section
namespace Go.Proofs.Ytjecgolakaiddaa.P
open Go.RowKit Go.Proofs.YtjecgolakaiddaaW.PrintWords Go.Proofs.YtjecgolakaiddaaW.PrintLast Go.Proofs.YtjecgolakaiddaaW.PrintMore
attribute [local go_sem] max2_int min2_int max_two min_two max_three min_three max_four min_four
set_option linter.unusedVariables false
set_option linter.unusedSimpArgs false
def impl_DegreeOf.f (k : Nat) (l0 : List Int) : Option (Int) := (impl_sumOf.f k l0).bind fun t101 => (some t101)
theorem impl_DegreeOf.mono : ∀ a0 k, LeO (impl_DegreeOf.f k a0) (impl_DegreeOf.f (k + 1) a0) := by
  intro a0 k; unfold impl_DegreeOf.f; repeat' first | (with_reducible apply impl_sumOf.mono) | (with_reducible exact LeO.refl _) | (with_reducible exact LeO.none _) | (with_reducible refine LeO.ite ?_ ?_) | (with_reducible refine LeO.bind ?_ (fun _ => ?_)) | apply impl_sumOf.mono | exact LeO.none _ | refine LeO.ite ?_ ?_ | refine LeO.bind ?_ (fun _ => ?_)
def spec_l09Zero.f (k : Nat) (a0_0 : Int) (l0_1 : List (S70)) (l1 : List Int) : Option (Bool) := (spec_DivisorOk.f k a0_0 l0_1 l1).bind fun t102 => (if t102 = true then ((spec_DegreeOf.f k l1).bind fun t103 => (some (t103 == 0))) else (some false))
theorem spec_l09Zero.mono : ∀ a0 a1 a2 k, LeO (spec_l09Zero.f k a0 a1 a2) (spec_l09Zero.f (k + 1) a0 a1 a2) := by
  intro a0 a1 a2 k; unfold spec_l09Zero.f; repeat' first | (with_reducible apply spec_DegreeOf.mono) | (with_reducible apply spec_DivisorOk.mono) | (with_reducible exact LeO.refl _) | (with_reducible exact LeO.none _) | (with_reducible refine LeO.ite ?_ ?_) | (with_reducible refine LeO.bind ?_ (fun _ => ?_)) | apply spec_DegreeOf.mono | apply spec_DivisorOk.mono | exact LeO.none _ | refine LeO.ite ?_ ?_ | refine LeO.bind ?_ (fun _ => ?_)
def impl_ofDegreeZero.f (k : Nat) (a0_0 : Int) (l0_1 : List (S70)) (l1 : List Int) : Option (Bool) := (impl_DivisorOk.f k a0_0 l0_1 l1).bind fun t102 => (if t102 = true then ((impl_DegreeOf.f k l1).bind fun t103 => (some (t103 == 0))) else (some false))
theorem impl_ofDegreeZero.mono : ∀ a0 a1 a2 k, LeO (impl_ofDegreeZero.f k a0 a1 a2) (impl_ofDegreeZero.f (k + 1) a0 a1 a2) := by
  intro a0 a1 a2 k; unfold impl_ofDegreeZero.f; repeat' first | (with_reducible apply impl_DegreeOf.mono) | (with_reducible apply impl_DivisorOk.mono) | (with_reducible exact LeO.refl _) | (with_reducible exact LeO.none _) | (with_reducible refine LeO.ite ?_ ?_) | (with_reducible refine LeO.bind ?_ (fun _ => ?_)) | apply impl_DegreeOf.mono | apply impl_DivisorOk.mono | exact LeO.none _ | refine LeO.ite ?_ ?_ | refine LeO.bind ?_ (fun _ => ?_)
def spec_l11Class.f (k : Nat) (a0_0 : Int) (l0_1 : List (S70)) (l1 : List Int) (a2 : Int) : Option (List Int) := (spec_FullPile.f k a0_0 l0_1 a2).bind fun t102 => ((spec_l07Minus.f k t102 l1).bind fun t105 => ((spec_l05Reduce.f k a0_0 l0_1 t105 a2).bind fun bt108 => ((spec_l11Full.f k a0_0 l0_1 bt108.1 a2).bind fun t114 => (some t114))))
theorem spec_l11Class.mono : ∀ a0 a1 a2 a3 k, LeO (spec_l11Class.f k a0 a1 a2 a3) (spec_l11Class.f (k + 1) a0 a1 a2 a3) := by
  intro a0 a1 a2 a3 k; unfold spec_l11Class.f; repeat' first | (with_reducible apply spec_FullPile.mono) | (with_reducible apply spec_l05Reduce.mono) | (with_reducible apply spec_l07Minus.mono) | (with_reducible apply spec_l11Full.mono) | (with_reducible exact LeO.refl _) | (with_reducible exact LeO.none _) | (with_reducible refine LeO.ite ?_ ?_) | (with_reducible refine LeO.bind ?_ (fun _ => ?_)) | apply spec_FullPile.mono | apply spec_l05Reduce.mono | apply spec_l07Minus.mono | apply spec_l11Full.mono | exact LeO.none _ | refine LeO.ite ?_ ?_ | refine LeO.bind ?_ (fun _ => ?_)
end Go.Proofs.Ytjecgolakaiddaa.P
end

