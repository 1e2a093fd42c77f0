/- A part of the proof of FnExactClassesOf. -/
import Derived.Test.YtnbljcgdgblgoaaBFnExactClassesOf3
import Derived.Test.YtnbljcgdgblgoaaBFnExactClassesOf0
import Derived.Test.YtnbljcgdgblgoaaBFnExactClassesOf2
import Derived.Deep.LoopGhost
import Derived.Test.YtnbljcgdgblgoaaBFnExactClassesOf1
set_option maxHeartbeats 16000000
set_option maxRecDepth 1000000
section
namespace Go.Proofs.Ytnbljcgdgblgoaa.P
open Go.RowKit Go.Proofs.YtnbljcgdgblgoaaW.PrintWords Go.Proofs.YtnbljcgdgblgoaaW.PrintLast Go.Proofs.YtnbljcgdgblgoaaW.PrintMore
attribute [local go_sem] max2_int min2_int max_two min_two max_three min_three max_four min_four
set_option linter.unusedVariables false
set_option linter.unusedSimpArgs false
def spec_l07Minus.l0 : Nat → List Int → List Int → List Int → Int → Int → Option (List Int)
 | 0, _, _, _, _, _ => none
 | k + 1, x1, x5, x9, fE, eH => if eH < fE then (if 0 ≤ eH then (if eH < (x9.length : Int) then (if eH < (x1.length : Int) then (if x5.length < 17592186044416 then (spec_l07Minus.l0 k x1 (x5 ++ [wrap64 ((rd x9 eH) - (rd x1 eH))]) x9 fE (wrap64 (eH + 1))) else (none)) else (none)) else (none)) else (none)) else (some x5)
def spec_l07Minus.f (k : Nat) (l0 : List Int) (l1 : List Int) : Option (List Int) := spec_l07Minus.l0 k l1 (([] : List Int)) l0 (l0.length : Int) 0
theorem spec_l07Minus.mono_l : ∀ k, (∀ y0 y1 y2 y3 y4, LeO (spec_l07Minus.l0 k y0 y1 y2 y3 y4) (spec_l07Minus.l0 (k + 1) y0 y1 y2 y3 y4))
 | 0 => fun _ _ _ _ _ r h => by simp [spec_l07Minus.l0] at h
 | k + 1 => by
  have ih0 := spec_l07Minus.mono_l k
  ·intro y0 y1 y2 y3 y4
   unfold spec_l07Minus.l0
   exact zm0
theorem spec_l07Minus.mono : ∀ a0 a1 k, LeO (spec_l07Minus.f k a0 a1) (spec_l07Minus.f (k + 1) a0 a1) := by
 intro a0 a1 k; have ih0 := spec_l07Minus.mono_l k; unfold spec_l07Minus.f; exact zm0
theorem spec_l07Minus.calls (k : Nat) (A0 : Option Addr) (c0 : Nat) (l0 : List Int) (A1 : Option Addr) (c1 : Nat) (l1 : List Int) (r : List Int) (w : World) (hr0 : Kd.C (Kd.int .i64) w A0 l0.length l0) (hc0 : l0.length ≤ c0) (hr1 : Kd.C (Kd.int .i64) w A1 l1.length l1) (hc1 : l1.length ≤ c1) (h : spec_l07Minus.f k l0 l1 = some r) :
  Calls Try.prog 101 #[.slice A0 l0.length c0, .slice A1 l1.length c1] w fun e w' => ∃ v0_ : Value, e = .returned (v0_) ∧ Kd.R (Kd.int .i64) 3 w' w.heap.size (fun _ => True) v0_ r ∧ Below w.heap.size w w' := by
 have HR0 := zK_ hr0; have HC0 := zK_ hc0; clear hr0 hc0; have HR1 := zK_ hr1; have HC1 := zK_ hc1; clear hr1 hc1; have HB := zK_ (Below.refl w.heap.size w); have H : (spec_l07Minus.l0 k l1 (([] : List Int)) l0 (l0.length : Int) 0) = some r := h; clear h; obtain ⟨fA, hy_⟩ : ∃ y_ : List Int, y_ = (([] : List Int)) := ⟨_, rfl⟩; (replace H : (spec_l07Minus.l0 k l1 fA l0 (l0.length : Int) 0) = some r := zzY); have gF := zK_ hy_; clear hy_; have H' := zK_ H; clear H; go_enter Try.func101, Try.ntmps101; (go_wp2_with (first | ((with_reducible refine gate_dst (N := 8) rfl ?_); refine Kd.R_lit (Kd.int .i64) _ 3 ?hg (N := 8) ?hd (xs := ([] : List Int)) (inner := []) (ok := fun _ => True) (okp := fun _ => True) ?hr ?hp (fun _ hk => hk) trivial (Below.refl _ _) (Nat.le_refl _) (by simp) ?_; (case hd => rfl); (case hg => rfl); (case hr => exact zz9); (case hp => exact (Reps.none _ _)); intro v102 w3 ho4 hb hg_ hnew_; clear hg_ hnew_; (first | rw [← gF.out] at ho4 | (simp only [Int.reduceToNat] at ho4; rw [← gF.out] at ho4)); have n_ := zA2 (Kd.R_lower ho4 (below_size zz1)) (below_step zz1 hb); clear HB; obtain ⟨jR, HB⟩ := n_; clear hb ho4))); (go_loopg [5, 11] k (fun kq v5 v11 w' => ∃ (aN : List Int) (aI : Int), v11 = .int .i64 aI ∧ Aside0 (spec_l07Minus.l0 kq l1 aN l0 (l0.length : Int) aI = some r) ∧ Aside0 (kq ≤ k) ∧ Aside0 (Kd.R (Kd.int .i64) 3 w' w.heap.size (fun _ => True) v5 aN) ∧ Aside0 (Below w.heap.size w w'))); case atStart => exact ⟨(fA), (0), zz5, H', ⟨Nat.le_refl _⟩, ⟨zz40⟩, ⟨zz1⟩⟩
 case round =>
  clear H'; (try clear c1); (try clear p2); obtain ⟨aN, aI, rfl, HA, HK1, bY, HB⟩ := hrel
  cases gk with
  | zero => exact absurd HA.out (by simp [spec_l07Minus.l0])
  | succ k1 =>
   have H := HA.out; clear HA; simp only [spec_l07Minus.l0] at H; by_cases c5 : aI < (l0.length : Int); rotate_left
   ·rw [if_neg c5] at H; have dF := decide_eq_false c5; clear c5; obtain rfl := Option.some.inj H; go_wp2; go_ret; exact ⟨_, zz7, zz23, zz1⟩
   rw [if_pos c5] at H; have dF := decide_eq_true c5; clear c5; by_cases c6 : 0 ≤ aI; rotate_left
   ·rw [if_neg c6] at H; exact absurd H (by simp)
   rw [if_pos c6] at H; have eN := decide_eq_true c6; clear c6; by_cases c7 : aI < (l0.length : Int); rotate_left
   ·rw [if_neg c7] at H; exact absurd H (by simp)
   rw [if_pos c7] at H; have dL := decide_eq_true c7; clear c7; by_cases c8 : aI < (l1.length : Int); rotate_left
   ·rw [if_neg c8] at H; exact absurd H (by simp)
   rw [if_pos c8] at H; have fL := decide_eq_true c8; clear c8; by_cases c9 : aN.length < 17592186044416; rotate_left
   ·rw [if_neg c9] at H; exact absurd H (by simp)
   rw [if_pos c9] at H; have rK := zK_ c9; clear c9; obtain ⟨lX, hy_⟩ : ∃ y_ : List Int, y_ = (aN ++ [wrap64 ((rd l0 aI) - (rd l1 aI))]) := ⟨_, rfl⟩; (replace H : (spec_l07Minus.l0 k1 l1 lX l0 (l0.length : Int) (wrap64 (aI + 1))) = some r := zzY); have k6 := zK_ hy_; clear hy_; have H' := zK_ H; clear H; have p104 : 0 ≤ (aI : Int) := of_decide_eq_true zz3; have q104 : aI < (l0.length : Int) := of_decide_eq_true zz3; obtain ⟨dE, e104, bE⟩ := Kd.at_int HR0.out aI p104 q104; cases e104; replace bE := (HB.out.cell (World.block_lt_of_cell? w _ bE)).trans bE; replace p104 := eq_true p104; replace q104 := eq_true q104; have p105 : 0 ≤ (aI : Int) := of_decide_eq_true zz3; have q105 : aI < (l1.length : Int) := of_decide_eq_true zz3; obtain ⟨cH, e105, bF⟩ := Kd.at_int HR1.out aI p105 q105; cases e105; replace bF := (HB.out.cell (World.block_lt_of_cell? w _ bF)).trans bF; replace p105 := eq_true p105; replace q105 := eq_true q105; (go_wp2_with (first | ((with_reducible refine gate_builtin (b := .append) (xs := #[.tmp 16, .tmp 23]) rfl ?_); at_builtin; refine Kd.R_append (Kd.int .i64) (w0 := w) w.heap.size rfl (.tmp 16) (.tmp 23) 26 3 (.int .i64 0) 8 rfl Try.underlying26 info3 rfl (by decide) (by omega) u5 aN (wrap64 ((rd l0 aI) - (rd l1 aI))) [.int .i64 (wrap64 ((rd l0 aI) - (rd l1 aI)))] (fun _ => True) (fun _ => False) rfl rfl ?aP (fun _ hk => hk.elim) ?aF ?aO ?aB ?aS ?aL ?_; (case aP => exact rfl); (case aB => exact zz1); (case aF => exact (fun _ _ => trivial)); (case aO => exact zz23); (case aS => exact (below_size zz1)); (case aL => have := rK.out; omega); intro v107 w10 ho hb hg hat; rw [← k6.out] at ho; have n_ := zA2 hb ho; clear HB bY; obtain ⟨HB, iX⟩ := n_; clear ho hb hg hat))); go_roundg k1; (case measure => have := HK1.out; omega); case rel => exact ⟨(lX), (wrap64 (aI + 1)), zz5, H', ⟨zz34⟩, ⟨by (with_reducible repeat (first | apply Kd.R_alloc | apply Kd.R_drewN | apply Kd.R_drew)); exact iX.out⟩, ⟨zz1⟩⟩
def impl_NegateDivisor.l0 : Nat → List Int → Int → Int → Option (List Int)
 | 0, _, _, _ => none
 | k + 1, x3, x8, x9 => if x9 < x8 then (if 0 ≤ x9 then (if x9 < (x3.length : Int) then (impl_NegateDivisor.l0 k (x3.set (x9 : Int).toNat (wrap64 (-(rd x3 x9)))) x8 (wrap64 (x9 + 1))) else (none)) else (none)) else (some x3)
def impl_NegateDivisor.f (k : Nat) (l0 : List Int) : Option (List Int) := (impl_copyInts.f l0).bind fun cZ => (impl_NegateDivisor.l0 k cZ (cZ.length : Int) 0)
theorem impl_NegateDivisor.mono_l : ∀ k, (∀ y0 y1 y2, LeO (impl_NegateDivisor.l0 k y0 y1 y2) (impl_NegateDivisor.l0 (k + 1) y0 y1 y2))
 | 0 => fun _ _ _ r h => by simp [impl_NegateDivisor.l0] at h
 | k + 1 => by
  have ih0 := impl_NegateDivisor.mono_l k
  ·intro y0 y1 y2
   unfold impl_NegateDivisor.l0
   exact zm0
theorem impl_NegateDivisor.mono : ∀ a0 k, LeO (impl_NegateDivisor.f k a0) (impl_NegateDivisor.f (k + 1) a0) := by
 intro a0 k; have ih0 := impl_NegateDivisor.mono_l k; unfold impl_NegateDivisor.f; exact zm0
theorem impl_NegateDivisor.calls (k : Nat) (A0 : Option Addr) (c0 : Nat) (l0 : List Int) (r : List Int) (w : World) (hr0 : Kd.C (Kd.int .i64) w A0 l0.length l0) (hc0 : l0.length ≤ c0) (h : impl_NegateDivisor.f k l0 = some r) :
  Calls Try.prog 70 #[.slice A0 l0.length c0] w fun e w' => ∃ v0_ : Value, e = .returned (v0_) ∧ Kd.R (Kd.int .i64) 3 w' w.heap.size (fun _ => True) v0_ r ∧ Below w.heap.size w w' := by
 have HR0 := zK_ hr0; have HC0 := zK_ hc0; clear hr0 hc0; have HB := zK_ (Below.refl w.heap.size w); have H : ((impl_copyInts.f l0).bind fun cZ => (impl_NegateDivisor.l0 k cZ (cZ.length : Int) 0)) = some r := h; clear h; obtain ⟨cZ, A20, H⟩ := zO_ H; (try dsimp only at H); have A2 := zK_ A20; clear A20; have H' := zK_ H; clear H; go_enter Try.func70, Try.ntmps70; (go_wp2_with (first | ((with_reducible refine gate_callee (f := 86) rfl ?_); refine goesL_ (some 6) rfl rfl Try.func86 (by kernel_rfl) rfl #[.slice A0 l0.length c0] rfl zz4 ?_; (with_reducible refine (impl_copyInts.calls _ _ l0 cZ _ ?side1 ?side2 A2.out).mono ?_); (case side1 => exact zz26); (case side2 => exact HC0.out); rintro e w3 ⟨v102, rfl, ho0, hb⟩; refine ⟨_, rfl, ?_⟩; have n_ := zA2 (Kd.R_lower ho0 (below_size zz1)) (below_step zz1 hb); clear HB; obtain ⟨jR, HB⟩ := n_; clear ho0 hb; obtain ⟨Ao4, co4, yE⟩ := Kd.R_slice jR.out; subst yE))); (go_loopg [9] k (fun kq v9 w' => ∃ (bT : List Int) (bR : Int), v9 = .int .i64 bR ∧ Aside0 (impl_NegateDivisor.l0 kq bT (cZ.length : Int) bR = some r) ∧ Aside0 (kq ≤ k) ∧ Aside0 (Kd.R (Kd.int .i64) 3 w' w.heap.size (fun _ => True) (.slice Ao4 cZ.length co4) bT) ∧ Aside0 (Below w.heap.size w w'))); case atStart => exact ⟨(cZ), (0), zz5, H', ⟨Nat.le_refl _⟩, ⟨zz40⟩, ⟨zz1⟩⟩
 case round =>
  clear H'; (try clear p2); obtain ⟨bT, bR, rfl, HA, HK1, bC, HB⟩ := hrel; have iT := (Kd.R_reads' bC.out).1; rw [iT] at bC; (try simp only [iT])
  cases gk with
  | zero => exact absurd HA.out (by simp [impl_NegateDivisor.l0])
  | succ k1 =>
   have H := HA.out; clear HA; simp only [impl_NegateDivisor.l0] at H; by_cases c5 : bR < (cZ.length : Int); rotate_left
   ·rw [if_neg c5] at H; have dF := decide_eq_false c5; (try (have jM := dF; first | rw [iT] at jM | rw [← iT] at jM)); clear c5; obtain rfl := Option.some.inj H; go_wp2; go_ret; exact ⟨_, zz7, zz19, zz1⟩
   rw [if_pos c5] at H; have dF := decide_eq_true c5; (try (have jM := dF; first | rw [iT] at jM | rw [← iT] at jM)); clear c5; by_cases c6 : 0 ≤ bR; rotate_left
   ·rw [if_neg c6] at H; exact absurd H (by simp)
   rw [if_pos c6] at H; have eN := decide_eq_true c6; clear c6; by_cases c7 : bR < (bT.length : Int); rotate_left
   ·rw [if_neg c7] at H; exact absurd H (by simp)
   rw [if_pos c7] at H; have dL := decide_eq_true c7; (try (have nW := dL; first | rw [iT] at nW | rw [← iT] at nW)); clear c7; obtain ⟨eI, hy_⟩ : ∃ y_ : List Int, y_ = (bT.set (bR : Int).toNat (wrap64 (-(rd bT bR)))) := ⟨_, rfl⟩; (replace H : (impl_NegateDivisor.l0 k1 eI (cZ.length : Int) (wrap64 (bR + 1))) = some r := zzY); have iJ := zK_ hy_; clear hy_; have H' := zK_ H; clear H; have p104 : 0 ≤ (bR : Int) := of_decide_eq_true zz3; have q104 : bR < (bT.length : Int) := of_decide_eq_true zz3; obtain ⟨dE, e104, bE⟩ := Kd.at_int (Kd.R_reads' bC.out).2.2 bR p104 q104; cases e104; replace p104 := eq_true p104; replace q104 := eq_true q104; have p8 : 0 ≤ (bR : Int) := of_decide_eq_true zz3; have q8 : (bR : Int) < ((bT.length : Int) : Int) := of_decide_eq_true zz3; obtain ⟨go8, co8, sJ, sE, gl8, cl8, HG8⟩ := Kd.R_form bC.out (by omega); (first | cases sJ | (injection sJ with ea_ en_ ec_; (first | subst ea_ | (injection ea_ with ea_; subst ea_)); subst ec_; clear en_)); have vZ := zK_ sE; have BV := zK_ HG8; clear sE gl8 HG8; (first | simp only [add_plain] at bE | skip); obtain ⟨kT, o2⟩ := Kd.R_celln 0 bC.out (bR : Int) p8 q8; replace p8 := eq_true p8; replace q8 := eq_true q8; have yM := Kd.R_putg bC.out (bR : Int) (wrap64 (-(rd bT bR))); (go_wp2_with (first | ((with_reducible refine gate_store (t := 3) (p := 19) rfl ?_); refine store_event (t := 3) (p := 19) (v := ?vo_w10) (w1 := (wr.setCell ⟨go8, (bR : Int).toNat, none⟩ (.int .i64 (wrap64 (-(rd bT bR)))))) ?hg ?ho ?hn ?hr ?_; (case ho => rfl); (case hg => rfl); (case hn => rfl); (case hr => exact zz9); intro w10 hw; have hg : wr.grownBy w10 (some go8) := (by rw [hw]; exact yM.2); have hp_ : Kd.R (Kd.int .i64) 3 w10 w.heap.size (fun _ => True) (.slice (some ⟨go8, 0, none⟩) bT.length co4) eI := (by rw [hw, iJ.out]; exact yM.1); clear yM; have n_ := zA2 hp_ (by rw [hw]; exact below_set (HB.out) vZ.out : Below w.heap.size w w10); clear bC HB; obtain ⟨bC, HB⟩ := n_; clear hg hw hp_))); (try simp only [← iT]); go_roundg k1; (case measure => have := HK1.out; omega); case rel => exact ⟨(eI), (wrap64 (bR + 1)), zz5, H', ⟨zz34⟩, ⟨by (try simp only [iT]); (with_reducible repeat (first | apply Kd.R_alloc | apply Kd.R_drewN | apply Kd.R_drew)); exact bC.out⟩, ⟨zz1⟩⟩
end Go.Proofs.Ytnbljcgdgblgoaa.P
end

section
namespace Go.Proofs.Ytnbljcgdgblgoaa.Cf
set_option linter.unusedVariables false
set_option linter.unusedSimpArgs false
open Go.RowKit Go.Proofs.YtnbljcgdgblgoaaW.PrintWords Go.Proofs.Ytnbljcgdgblgoaa.P
def lapRow (n : Nat) (es : List E) (r : Int) : List Int := repL n fun c => lapM es r c
def lapL (n : Nat) (es : List E) : List (List Int) := (List.range n).map fun r : Nat => lapRow n es (r : Int)
theorem lapL_len (n : Nat) (es : List E) : (lapL n es).length = n := by simp [lapL]
theorem lapM_bd {es : List E} (hel : es.length ≤ 12) (r c : Int) : -12 ≤ lapM es r c ∧ lapM es r c ≤ 12 := by
 have h1 := val_nonneg es r
 have h2 := val_le es r
 have h3 := mult_nonneg es r c
 have h4 := mult_le es r c
 unfold lapM
 split <;> omega
theorem implLap_l1 {n : Nat} {es : List E} (hes : ∀ e ∈ es, EOk n e) (hel : es.length ≤ 12) (hn : n ≤ 6) {M : List (List Int)} (hM : M.length ≤ 6) {v : Nat} (hv : v < n) {Q : List (List Int) → Prop}
  (hQ : Ep (fun k => impl_LaplacianOf.l0 k (M ++ [lapRow n es (v : Int)]) ((v + 1 : Nat) : Int) (n : Int) es) Q) : ∀ (d i : Nat) (x : List Int), i + d = n → Rep n x (fun w => if w < i then - mult es (v : Int) w else 0) →
  Ep (fun k => impl_LaplacianOf.l1 k M (v : Int) x (n : Int) (i : Int) (n : Int) es) Q := by
 intro d
 induction d with
 | zero =>
  intro i x hi hx
  refine Ep.up ?_
  simp only [impl_LaplacianOf.l1]
  refine Ep.neg (by omega) (Ep.bind (implValence _ es _ (by omega)) ?_)
  rintro _ rfl
  refine Ep.pos (by omega) (Ep.pos (by have := hx.1; omega) (Ep.pos (by omega) ?_))
  have e : x.set ((v : Int)).toNat (valG (n : Int) es (v : Int)) = lapRow n es (v : Int) := ((hx.set (v := (v : Int)) (by omega) (by omega) _).congr fun w w0 w1 => by
   unfold lapM
   by_cases c : w = v
   ·rw [if_pos c, if_pos c.symm, valG_in ⟨by omega, by omega⟩]
   ·rw [if_neg c, if_pos (by omega), if_neg (fun q => c q.symm)]).eq
  rw [e, wrap_succ (by omega)]
  exact hQ
 | succ d ih =>
  intro i x hi hx
  refine Ep.up ?_
  simp only [impl_LaplacianOf.l1]
  refine Ep.pos (by omega) (Ep.bind (implMult _ es hes hel _ _ ⟨by omega, by omega⟩ ⟨by omega, by omega⟩) ?_)
  rintro _ rfl
  have hm0 := mult_nonneg es (v : Int) (i : Int)
  have hm1 := mult_le es (v : Int) (i : Int)
  refine Ep.pos (by omega) (Ep.pos (by have := hx.1; omega) ?_)
  rw [wrap_id (by omega) (by omega), wrap_succ (by omega)]
  refine ih (i + 1) _ (by omega) ((hx.set (v := (i : Int)) (by omega) (by omega) _).congr fun w w0 w1 => ?_)
  by_cases c : w = i
  ·rw [if_pos c, if_pos (by omega), c]
  ·rw [if_neg c]
   by_cases c2 : w < i
   ·rw [if_pos c2, if_pos (by omega)]
   ·rw [if_neg c2, if_neg (by omega)]
theorem lapL_take {n : Nat} (es : List E) {v : Nat} (hv : v < n) : (lapL n es).take (v + 1) = (lapL n es).take v ++ [lapRow n es (v : Int)] := by
 rw [List.take_succ_eq_append_getElem (by rw [lapL_len]; exact hv)]
 simp [lapL]
theorem implLap_l0 {n : Nat} {es : List E} (hes : ∀ e ∈ es, EOk n e) (hel : es.length ≤ 12) (hn : n ≤ 6) : ∀ (d v : Nat), v + d = n → Ep (fun k => impl_LaplacianOf.l0 k ((lapL n es).take v) (v : Int) (n : Int) es) (· = lapL n es) := by
 intro d
 induction d with
 | zero =>
  intro v hv
  refine Ep.up ?_
  simp only [impl_LaplacianOf.l0]
  refine Ep.neg (by omega) (Ep.now ?_)
  rw [List.take_of_length_le (by rw [lapL_len]; omega)]
 | succ d ih =>
  intro v hv
  have h1 := ih (v + 1) (by omega)
  rw [lapL_take es (by omega)] at h1
  refine Ep.up ?_
  simp only [impl_LaplacianOf.l0]
  refine Ep.pos (by omega) (Ep.pos (by omega) (Ep.pos (by omega) (Ep.bind0 rfl ?_)))
  rw [Int.toNat_natCast, List.length_replicate]
  exact implLap_l1 hes hel hn (by rw [List.length_take]; omega) (by omega) h1 n 0 _ (by omega) ((Rep.zero n).congr fun w w0 w1 => by rw [if_neg (by omega)])
theorem implLap {n : Nat} {es : List E} (hg : GOk (n : Int) es) : Ep (fun k => impl_LaplacianOf.f k (n : Int) es) (· = lapL n es) := by
 have hG := hg.1
 unfold EsOk at hG
 simp only [impl_LaplacianOf.f]
 refine Ep.bind0 (implGraph _ _) ?_
 rw [gOk_iff.2 hg]
 refine Ep.pos rfl ?_
 have := implLap_l0 (n := n) hG.2.2.2 hG.2.2.1 (by omega) n 0 (by omega)
 simpa using this
def vsL (n q : Nat) : List Int := ((List.range n).eraseIdx q).map fun i : Nat => (i : Int)
theorem vsL_len {n q : Nat} (hq : q < n) : (vsL n q).length = n - 1 := by
 unfold vsL
 rw [List.length_map, List.length_eraseIdx, if_pos (by simpa using hq), List.length_range]
def redM (n : Nat) (es : List E) (q : Nat) : List (List Int) := (vsL n q).map fun r => (vsL n q).map fun c => lapM es r c
theorem redM_len {n q : Nat} (hq : q < n) (es : List E) : (redM n es q).length = n - 1 := by unfold redM; rw [List.length_map, vsL_len hq]
theorem keep_erase (q : Nat) (L : List (List Int)) : ∀ i, i ≤ L.length → keepF q L i = ((L.take i).eraseIdx q).map fun r => r.eraseIdx q
 | 0, _ => by simp [keepF]
 | i + 1, h => by
  have hi : i < L.length := by omega
  have ih := keep_erase q L i (by omega)
  unfold keepF
  have hl : (L.take i).length = i := by rw [List.length_take]; omega
  rw [List.take_succ_eq_append_getElem hi]
  by_cases c : i = q
  ·rw [if_pos c, ih, List.eraseIdx_append_of_length_le (by omega), hl, show q - i = 0 by omega, List.eraseIdx_of_length_le (l := L.take i) (by omega)]
   simp
  ·rw [if_neg c, ih]
   have hg : L.getD i [] = L[i] := by simp [List.getD, hi]
   rw [hg]
   by_cases d : q < i
   ·rw [List.eraseIdx_append_of_lt_length (by omega)]
    simp
   ·rw [List.eraseIdx_append_of_length_le (by omega), List.eraseIdx_of_length_le (l := L.take i) (by omega), List.eraseIdx_of_length_le (l := [L[i]]) (by simp; omega), List.map_append]
    rfl
theorem keep_red {n q : Nat} (es : List E) : keepF q (lapL n es) (lapL n es).length = redM n es q := by
 rw [keep_erase q _ _ (Nat.le_refl _), List.take_length]
 unfold lapL redM vsL lapRow repL
 rw [map_eraseIdx, List.map_map]
 show _ = (((List.range n).eraseIdx q).map fun i : Nat => (i : Int)).map _
 rw [List.map_map]
 refine List.map_congr_left fun r _ => ?_
 show ((List.range n).map fun c : Nat => lapM es (r : Int) (c : Int)).eraseIdx q = (((List.range n).eraseIdx q).map fun i : Nat => (i : Int)).map _
 rw [map_eraseIdx, List.map_map]
 rfl
theorem implRL {n : Nat} {es : List E} (hg : GOk (n : Int) es) {q : Nat} (hq : q < n) : Ep (fun k => impl_ReducedLaplacian.f k (n : Int) es (q : Int)) (· = redM n es q) := by
 have hG := hg.1
 unfold EsOk at hG
 simp only [impl_ReducedLaplacian.f]
 refine Ep.bind0 (isVertex_eq (n : Int) es _ (by simp [Wf, Lit.wf, IntKind.min, IntKind.max, IntKind.signed, IntKind.bits]; omega)) ?_
 refine Ep.pos (by rw [gOk_iff.2 hg]; simp; omega) ?_
 refine Ep.bind (implLap hg) ?_
 rintro _ rfl
 have e : redF (q : Int) (lapL n es) = some (redM n es q) := by
  unfold redF
  rw [if_pos, Int.toNat_natCast, keep_red]
  refine ⟨by omega, by omega, by rw [lapL_len]; omega, fun r hr => ?_⟩
  unfold lapL at hr
  obtain ⟨i, _, rfl⟩ := List.mem_map.1 hr
  unfold lapRow
  rw [repL_len]
  omega
 exact Ep.congr (fun _ => e) (Ep.now rfl)
def SqOk (m : Nat) (M : List (List Int)) : Prop := M.length = m ∧ (∀ r ∈ M, r.length = m) ∧ ∀ r ∈ M, ∀ x ∈ r, -12 ≤ x ∧ x ≤ 12
theorem rd_bd {l : List Int} (h : ∀ x ∈ l, -12 ≤ x ∧ x ≤ 12) (i : Int) : -12 ≤ rd l i ∧ rd l i ≤ 12 := by
 unfold rd
 by_cases c : i.toNat < l.length
 ·rw [List.getD_eq_getElem?_getD, List.getElem?_eq_getElem c]
  exact h _ (List.getElem_mem c)
 ·rw [List.getD_eq_getElem?_getD, List.getElem?_eq_none (by omega)]
  simp
theorem SqOk.ent {m : Nat} {M : List (List Int)} (h : SqOk m M) (r c : Int) : -12 ≤ ent M r c ∧ ent M r c ≤ 12 := by
 unfold Cf.ent
 by_cases d : r.toNat < M.length
 ·rw [List.getD_eq_getElem?_getD, List.getElem?_eq_getElem d]
  exact rd_bd (h.2.2 _ (List.getElem_mem d)) c
 ·rw [List.getD_eq_getElem?_getD, List.getElem?_eq_none (by omega)]
  simp [rd]
theorem det_bd {m : Nat} {M : List (List Int)} (h : SqOk m M) {rs cs : List Int} (hr : rs.length ≤ 5) (hc : cs.length ≤ 6) : -1934917632 ≤ detL M rs cs ∧ detL M rs cs ≤ 1934917632 := by
 have h1 := detL_bd (B := 12) (by omega) h.ent rs cs hc
 have h2 : ((6 * 12 : Int)) ^ rs.length ≤ 1934917632 := by
  match hl : rs.length, hr with
  | 0, _ => decide
  | 1, _ => decide
  | 2, _ => decide
  | 3, _ => decide
  | 4, _ => decide
  | 5, _ => decide
 omega
theorem alt_shift (n : Nat) (g : Nat → Int) (p : Nat) : alt (n + 1) (fun i => g (p + i)) = g p - alt n (fun i => g (p + 1 + i)) := by
 show g (p + 0) - _ = _
 rw [Nat.add_zero]
 congr 1
 exact alt_congr fun i _ => by show g (p + (i + 1)) = _; rw [show p + (i + 1) = p + 1 + i by omega]
theorem implDet_l0 {m : Nat} (hm : m ≤ 5) {M : List (List Int)} (hM : SqOk m M) {r : Int} {rs : List Int} (hr : 0 ≤ r ∧ r < m) (hrs : rs.length ≤ 4) {b : Nat} (hb : b < 2 ^ m)
  (ih : ∀ b' : Nat, b' < 2 ^ m → Ep (fun k => impl_determinant.f k M rs (b' : Int)) (· = detL M rs (bitsL b'))) :
  ∀ (d c : Nat) (s σ : Int), c + d = m → (σ = 1 ∨ σ = -1) → (-(c * 23219011584 : Int) ≤ s ∧ s ≤ c * 23219011584) →
   Ep (fun k => impl_determinant.l0 k M (r :: rs) (b : Int) s σ (rd_L3 M r) (m : Int) (c : Int))
    (· = s + σ * alt ((bitsL b).length - (bitsB b c).length) fun i => ent M r ((bitsL b).getD ((bitsB b c).length + i) 0) * detL M rs ((bitsL b).eraseIdx ((bitsB b c).length + i))) := by
 have h32 : (2 : Nat) ^ m ≤ 32 := by
  have := Nat.pow_le_pow_right (show 0 < 2 by omega) hm
  omega
 have hrow : (rd_L3 M r).length = m := by
  unfold rd_L3
  rw [List.getD_eq_getElem?_getD, List.getElem?_eq_getElem (by have := hM.1; omega)]
  exact hM.2.1 _ (List.getElem_mem _)
 intro d
 induction d with
 | zero =>
  intro c s σ hc hσ hs
  refine Ep.up ?_
  simp only [impl_determinant.l0]
  refine Ep.neg (by omega) (Ep.now ?_)
  have e := bm_all ⟨b, by omega⟩ ⟨c, by omega⟩ (by simp; rw [show c = m by omega]; exact hb)
  simp only at e
  rw [e, Nat.sub_self]
  simp [alt]
 | succ d ihd =>
  intro c s σ hc hσ hs
  refine Ep.up ?_
  simp only [impl_determinant.l0]
  refine Ep.pos (by omega) (Ep.pos (by omega) (Ep.pos (by omega) ?_))
  rw [wrap_succ (by omega)]
  have hsu := bitsB_succ b c
  rcases bm_val ⟨b, by omega⟩ ⟨c, by omega⟩ with ⟨b1, b2⟩ | ⟨b1, b2⟩
  ·simp only at b1 b2
   rw [if_pos b2] at hsu
   obtain ⟨m', e1, e2, e3, e4⟩ := bm_drop ⟨b, by omega⟩ ⟨c, by omega⟩ b2
   simp only at e1 e2 e3 e4
   have hp : (bitsB b c).length < (bitsL b).length := by
    rw [List.getElem?_eq_some_iff] at e3
    exact e3.1
   have hg : (bitsL b).getD (bitsB b c).length 0 = (c : Int) := by rw [List.getD_eq_getElem?_getD, e3]; rfl
   have hl1 : (bitsB b (c + 1)).length = (bitsB b c).length + 1 := by rw [hsu]; simp
   have hsplit : (bitsL b).length - (bitsB b c).length = ((bitsL b).length - (bitsB b (c + 1)).length) + 1 := by omega
   have hent : rd (rd_L3 M r) (c : Int) = ent M r (c : Int) := rfl
   have hbd := hM.ent r (c : Int)
   have hdb := det_bd hM (rs := rs) (cs := bitsL m'.val) (by omega) (by have := bitsB_len m'.val 6; exact this)
   rw [hsplit, alt_shift _ (fun i => ent M r ((bitsL b).getD i 0) * detL M rs ((bitsL b).eraseIdx i)), hg, ← e2, ← hl1]
   refine Ep.neg (by rw [b1]; omega) ?_
   rw [hent]
   by_cases hz : ent M r (c : Int) = 0
   ·refine Ep.pos hz ?_
    have hneg : wrap64 (-σ) = -σ := wrap_id (by omega) (by omega)
    rw [hneg]
    refine (ihd (c + 1) s (-σ) (by omega) (by omega) (by omega)).mono fun v hv => ?_
    rw [hv, hz, Int.zero_mul, Int.zero_sub, Int.mul_neg, Int.neg_mul]
   ·refine Ep.neg hz (Ep.pos (by rw [List.length_cons]; omega) ?_)
    rw [e1]
    refine Ep.bind (ih m'.val (by omega)) ?_
    rintro _ rfl
    have hneg : wrap64 (-σ) = -σ := wrap_id (by omega) (by omega)
    have hprod := mul_bd hbd hdb
    have e5 : wrap64 (σ * ent M r (c : Int)) = σ * ent M r (c : Int) := by
     rcases hσ with rfl | rfl
     ·exact wrap_id (by omega) (by omega)
     ·exact wrap_id (by omega) (by omega)
    have e6 : σ * ent M r (c : Int) * detL M rs (bitsL m'.val) = σ * (ent M r (c : Int) * detL M rs (bitsL m'.val)) := Int.mul_assoc _ _ _
    have hb2 : -(23219011584 : Int) ≤ σ * (ent M r (c : Int) * detL M rs (bitsL m'.val)) ∧ σ * (ent M r (c : Int) * detL M rs (bitsL m'.val)) ≤ 23219011584 := by
     rcases hσ with rfl | rfl <;> omega
    rw [e5, e6]
    have e7 : wrap64 (σ * (ent M r (c : Int) * detL M rs (bitsL m'.val))) = σ * (ent M r (c : Int) * detL M rs (bitsL m'.val)) := wrap_id (by omega) (by omega)
    have e8 : wrap64 (s + σ * (ent M r (c : Int) * detL M rs (bitsL m'.val))) = s + σ * (ent M r (c : Int) * detL M rs (bitsL m'.val)) := wrap_id (by omega) (by omega)
    rw [e7, e8, hneg]
    refine (ihd (c + 1) _ (-σ) (by omega) (by omega) (by omega)).mono fun v hv => ?_
    rw [hv, Int.mul_sub, Int.neg_mul]
    omega
  ·simp only at b1 b2
   have b2' : ¬ b.testBit c = true := by simpa using b2
   rw [if_neg b2', List.append_nil] at hsu
   refine Ep.pos b1 ?_
   have h := ihd (c + 1) s σ (by omega) hσ (by omega)
   rw [hsu] at h
   exact h
theorem implDet {m : Nat} (hm : m ≤ 5) {M : List (List Int)} (hM : SqOk m M) : ∀ (rs : List Int), rs.length ≤ 5 → (∀ r ∈ rs, 0 ≤ r ∧ r < (m : Int)) → ∀ b : Nat, b < 2 ^ m → Ep (fun k => impl_determinant.f k M rs (b : Int)) (· = detL M rs (bitsL b))
 | [], _, _, b, _ => by
  refine Ep.up ?_
  simp only [impl_determinant.f]
  exact Ep.pos rfl (Ep.now rfl)
 | r :: rs, hl, hr, b, hb => by
  have hr0 := hr r List.mem_cons_self
  have hrow : (rd_L3 M r).length = m := by
   unfold rd_L3
   rw [List.getD_eq_getElem?_getD, List.getElem?_eq_getElem (by have := hM.1; omega)]
   exact hM.2.1 _ (List.getElem_mem _)
  have ih := implDet hm hM rs (by simp at hl; omega) (fun x hx => hr x (List.mem_cons_of_mem _ hx))
  refine Ep.up ?_
  simp only [impl_determinant.f]
  have e : rd (r :: rs) 0 = r := rfl
  refine Ep.neg (by rw [List.length_cons]; omega) (Ep.pos (by rw [List.length_cons]; omega) (Ep.pos (by rw [e]; exact hr0.1) (Ep.pos (by rw [e, hM.1]; exact hr0.2) ?_)))
  rw [e, hrow]
  refine (implDet_l0 hm hM hr0 (by simp at hl; omega) hb ih m 0 0 1 (by omega) (Or.inl rfl) (by omega)).mono fun v hv => ?_
  rw [hv, show (bitsB b 0).length = 0 from rfl]
  simp only [Nat.sub_zero, Nat.zero_add, Int.zero_add, Int.one_mul]
  rfl
theorem implMat_l0 {m : Nat} (hm : m ≤ 5) {M : List (List Int)} (hM : SqOk m M) : ∀ (d i : Nat), i + d = m → Ep (fun k => impl_MatrixOk.l0 k M M (m : Int) (i : Int)) (· = true) := by
 intro d
 induction d with
 | zero =>
  intro i hi
  refine Ep.up ?_
  simp only [impl_MatrixOk.l0]
  exact Ep.neg (by omega) (Ep.now rfl)
 | succ d ih =>
  intro i hi
  have hml := hM.1
  have hlt : i < M.length := by omega
  have e : rd_L3 M (i : Int) = M[i] := by
   unfold rd_L3
   rw [Int.toNat_natCast, List.getD_eq_getElem?_getD, List.getElem?_eq_getElem hlt]
   rfl
  have h1 := hM.2.1 _ (List.getElem_mem hlt)
  have h2 := hM.2.2 _ (List.getElem_mem hlt)
  refine Ep.up ?_
  simp only [impl_MatrixOk.l0]
  refine Ep.pos (by omega) (Ep.pos (by omega) (Ep.pos (by omega) (Ep.pos (by rw [e]; omega) ?_)))
  rw [e]
  refine Ep.bind (allWithin_ok _ _ _ (by omega)) ?_
  rintro _ rfl
  refine Ep.pos (decide_eq_true fun x hx => by have := h2 x hx; omega) ?_
  rw [wrap_succ (by omega)]
  exact ih (i + 1) (by omega)
theorem implMatrixOk {m : Nat} (hm : m ≤ 5) {M : List (List Int)} (hM : SqOk m M) : Ep (fun k => impl_MatrixOk.f k M) (· = true) := by
 simp only [impl_MatrixOk.f]
 have hml := hM.1
 refine Ep.neg (by omega) ?_
 rw [hml]
 exact implMat_l0 hm hM m 0 (by omega)
def upTo (m : Nat) : List Int := (List.range m).map fun j : Nat => (j : Int)
theorem implDeterminant {m : Nat} (hm : m ≤ 5) {M : List (List Int)} (hM : SqOk m M) : Ep (fun k => impl_Determinant.f k M) (· = detL M (upTo m) (upTo m)) := by
 simp only [impl_Determinant.f]
 refine Ep.bind (implMatrixOk hm hM) ?_
 rintro _ rfl
 refine Ep.pos rfl ?_
 obtain ⟨h1, h2, h3, h4⟩ := bm_full (i := m) (by omega)
 rw [hM.1, h2]
 refine Ep.bind (implBits h4) ?_
 rintro _ rfl
 rw [h1]
 have hpos : 0 < 2 ^ m := Nat.pow_pos (by omega)
 refine Ep.bind (implDet hm hM _ (by simp; exact hm) (fun r hr => ?_) (2 ^ m - 1) (by omega)) ?_
 ·obtain ⟨j, hj, rfl⟩ := List.mem_map.1 hr
  have := List.mem_range.1 hj
  omega
 ·rintro _ rfl
  rw [h1]
  exact Ep.now rfl
theorem redM_sq {n q : Nat} (hq : q < n) {es : List E} (hel : es.length ≤ 12) : SqOk (n - 1) (redM n es q) := by
 refine ⟨redM_len hq es, fun r hr => ?_, fun r hr x hx => ?_⟩
 ·unfold redM at hr
  obtain ⟨v, _, rfl⟩ := List.mem_map.1 hr
  rw [List.length_map, vsL_len hq]
 ·unfold redM at hr
  obtain ⟨v, _, rfl⟩ := List.mem_map.1 hr
  obtain ⟨w, _, rfl⟩ := List.mem_map.1 hx
  exact lapM_bd hel _ _
def vAt (vs : List Int) (i : Int) : Int := vs.getD i.toNat 0
theorem redM_ent {n q : Nat} (hq : q < n) (es : List E) {r c : Int} (hr : 0 ≤ r ∧ r < ((n - 1 : Nat) : Int)) (hc : 0 ≤ c ∧ c < ((n - 1 : Nat) : Int)) : ent (redM n es q) r c = lapM es (vAt (vsL n q) r) (vAt (vsL n q) c) := by
 have hl := vsL_len hq
 unfold ent redM rd vAt
 rw [getD_map (fun r => (vsL n q).map fun c => lapM es r c) (vsL n q) r.toNat 0 [] (by omega), getD_map (fun c => lapM es _ c) (vsL n q) c.toNat 0 0 (by omega)]
theorem detL_detC {M : List (List Int)} {A : Int → Int → Int} {v : Int → Int} : ∀ (rs cs : List Int), (∀ r ∈ rs, ∀ c ∈ cs, ent M r c = A (v r) (v c)) → detL M rs cs = detC (rs.map v) (cs.map fun c r => A r (v c))
 | [], cs, _ => rfl
 | r :: rs, cs, h => by
  show (alt cs.length fun i => ent M r (cs.getD i 0) * detL M rs (cs.eraseIdx i)) = alt (cs.map fun c r => A r (v c)).length fun i => ((cs.map fun c r => A r (v c)).getD i z0) (v r) * detC (rs.map v) ((cs.map fun c r => A r (v c)).eraseIdx i)
  rw [List.length_map]
  refine alt_congr fun i hi => ?_
  rw [getD_map (fun c r => A r (v c)) cs i 0 z0 hi, map_eraseIdx, detL_detC rs (cs.eraseIdx i) fun r' hr' c hc => h r' (List.mem_cons_of_mem _ hr') c (List.mem_of_mem_eraseIdx hc), h r List.mem_cons_self _ (getD_mem 0 hi)]
theorem upTo_mem {m : Nat} {x : Int} : x ∈ upTo m ↔ 0 ≤ x ∧ x < m := by
 unfold upTo
 rw [List.mem_map]
 constructor
 ·rintro ⟨j, hj, rfl⟩
  have := List.mem_range.1 hj
  omega
 ·exact fun h => ⟨x.toNat, List.mem_range.2 (by omega), by omega⟩
theorem upTo_vAt (vs : List Int) : (upTo vs.length).map (vAt vs) = vs := by
 unfold upTo
 rw [List.map_map]
 refine List.ext_getElem (by simp) fun i h1 h2 => ?_
 simp [vAt, List.getD, h2]
theorem redM_det {n q : Nat} (hq : q < n) (es : List E) : detL (redM n es q) (upTo (n - 1)) (upTo (n - 1)) = dlap es (vsL n q) := by
 rw [detL_detC (A := lapM es) (v := vAt (vsL n q)) _ _ fun r hr c hc => redM_ent hq es (upTo_mem.1 hr) (upTo_mem.1 hc)]
 unfold dlap
 have e := upTo_vAt (vsL n q)
 rw [vsL_len hq] at e
 have e2 : (upTo (n - 1)).map (fun (c r : Int) => lapM es r (vAt (vsL n q) c)) = ((upTo (n - 1)).map (vAt (vsL n q))).map fun c r => lapM es r c := by rw [List.map_map]; rfl
 rw [e2, e]
theorem implCountTrees {n : Nat} {es : List E} (hg : GOk (n : Int) es) : Ep (fun k => impl_CountTrees.f k (n : Int) es) (· = dlap es (vsL n 0)) := by
 have hG := hg.1
 unfold EsOk at hG
 simp only [impl_CountTrees.f]
 refine Ep.bind0 (implGraph _ _) ?_
 rw [gOk_iff.2 hg]
 refine Ep.pos rfl (Ep.bind (implRL hg (q := 0) (by omega)) ?_)
 rintro _ rfl
 refine Ep.bind (implDeterminant (by omega) (redM_sq (q := 0) (by omega) hG.2.2.1)) ?_
 rintro _ rfl
 rw [redM_det (by omega)]
 exact Ep.now rfl
end Go.Proofs.Ytnbljcgdgblgoaa.Cf
end

section
namespace Go.Proofs.Ytnbljcgdgblgoaa.Cf
set_option linter.unusedVariables false
set_option linter.unusedSimpArgs false
def fstS (s : List Int) : Nat := if s.length = 0 then 0 else (s.getD (s.length - 1) 0).toNat + 1
def extS (s : List Int) (j : Nat) : List (List Int) := (List.range (j - fstS s)).map fun d => s ++ [((fstS s + d : Nat) : Int)]
def setsN (n : Nat) : Nat → List (List Int)
 | 0 => [[]]
 | k + 1 => (setsN n k).flatMap fun s => extS s n
def outS (n : Nat) (L : List (List Int)) (i : Nat) : List (List Int) := (L.take i).flatMap fun s => extS s n
theorem extS_self (s : List Int) {j : Nat} (h : j ≤ fstS s) : extS s j = [] := by
 unfold extS
 rw [Nat.sub_eq_zero_of_le h]
 rfl
theorem extS_succ (s : List Int) {j : Nat} (h : fstS s ≤ j) : extS s (j + 1) = extS s j ++ [s ++ [(j : Int)]] := by
 unfold extS
 rw [show j + 1 - fstS s = (j - fstS s) + 1 by omega, List.range_succ, List.map_append]
 simp only [List.map_cons, List.map_nil]
 rw [show fstS s + (j - fstS s) = j by omega]
theorem outS_succ (n : Nat) {L : List (List Int)} {i : Nat} {x : List Int} (h : L[i]? = some x) : outS n L (i + 1) = outS n L i ++ extS x n := by
 unfold outS
 rw [List.take_add_one, h, List.flatMap_append]
 simp
theorem outS_all (n : Nat) (L : List (List Int)) : outS n L L.length = L.flatMap fun s => extS s n := by
 unfold outS
 rw [List.take_length]
theorem extS_len (s : List Int) (j : Nat) : (extS s j).length ≤ j := by
 unfold extS
 rw [List.length_map, List.length_range]
 omega
theorem flat_len (n : Nat) : ∀ L : List (List Int), (L.flatMap fun s => extS s n).length ≤ n * L.length
 | [] => by simp
 | s :: L => by
  have h1 := extS_len s n
  have h2 := flat_len n L
  rw [List.flatMap_cons, List.length_append, List.length_cons, Nat.mul_succ]
  omega
theorem outS_len (n : Nat) (L : List (List Int)) (i : Nat) : (outS n L i).length ≤ n * L.length := Nat.le_trans (flat_len n _) (Nat.mul_le_mul_left _ (by rw [List.length_take]; omega))
theorem setsN_len {n : Nat} (hn : n ≤ 12) : ∀ k, (setsN n k).length ≤ 12 ^ k
 | 0 => by simp [setsN]
 | k + 1 => by
  have h1 := setsN_len hn k
  have h2 := flat_len n (setsN n k)
  have h3 := Nat.mul_le_mul hn h1
  rw [Nat.pow_succ]
  show ((setsN n k).flatMap fun s => extS s n).length ≤ _
  omega
theorem setsN_len6 {n : Nat} (hn : n ≤ 12) {k : Nat} (hk : k ≤ 6) : (setsN n k).length ≤ 2985984 := Nat.le_trans (setsN_len hn k) (Nat.pow_le_pow_right (show 0 < 12 by omega) hk)
theorem setsN_ok {n : Nat} : ∀ {k : Nat} {s : List Int}, s ∈ setsN n k → s.length = k ∧ ∀ x ∈ s, 0 ≤ x ∧ x < (n : Int)
 | 0, s, h => by
  rw [setsN, List.mem_singleton] at h
  subst h
  exact ⟨rfl, fun x hx => by cases hx⟩
 | k + 1, s, h => by
  rw [setsN, List.mem_flatMap] at h
  obtain ⟨t, ht, h⟩ := h
  unfold extS at h
  obtain ⟨d, hd, rfl⟩ := List.mem_map.1 h
  rw [List.mem_range] at hd
  obtain ⟨h1, h2⟩ := setsN_ok ht
  refine ⟨by rw [List.length_append, h1]; rfl, fun x hx => ?_⟩
  rcases List.mem_append.1 hx with hx | hx
  ·exact h2 x hx
  ·rw [List.mem_singleton] at hx
   omega
theorem fstS_le {n k : Nat} {s : List Int} (h : s ∈ setsN n k) : fstS s ≤ n := by
 obtain ⟨h1, h2⟩ := setsN_ok h
 unfold fstS
 by_cases c : s.length = 0
 ·rw [if_pos c]; omega
 ·rw [if_neg c, List.getD_eq_getElem?_getD, List.getElem?_eq_getElem (by omega)]
  have := h2 _ (List.getElem_mem (l := s) (n := s.length - 1) (by omega))
  simp only [Option.getD_some]
  omega
end Go.Proofs.Ytnbljcgdgblgoaa.Cf
end

section
namespace Go.Proofs.Ytnbljcgdgblgoaa.P
open Go.RowKit Go.Proofs.YtnbljcgdgblgoaaW.PrintWords Go.Proofs.YtnbljcgdgblgoaaW.PrintLast Go.Proofs.YtnbljcgdgblgoaaW.PrintMore
attribute [local go_sem] max2_int min2_int max_two min_two max_three min_three max_four min_four
set_option linter.unusedVariables false
set_option linter.unusedSimpArgs false
def spec_l03Sets.f (a0 a1 : Int) : Option (List (List Int)) := if 0 ≤ a0 ∧ a0 ≤ 12 ∧ 0 ≤ a1 ∧ a1 ≤ 6 then some (Cf.setsN a0.toNat a1.toNat) else none
theorem spec_l03Sets.callsN (n : Nat) (hn : n ≤ 12) : ∀ (m : Nat), m ≤ 6 → ∀ w : World,
  Calls Try.prog 78 #[.int .i64 (n : Int), .int .i64 (m : Int)] w fun e w' => ∃ v0_ : Value, e = .returned (v0_) ∧ Kd.S (Kd.slice 3 (Kd.int .i64)) 26 w' w.heap.size (fun _ => True) v0_ (Cf.setsN n m) ∧ Below w.heap.size w w' := by
 intro m
 induction m with
 | zero =>
  intro hm w; have HB := zK_ (Below.refl w.heap.size w); go_enter Try.func78, Try.ntmps78; (go_wp2_with (first | ((with_reducible refine gate_dst (N := 12) rfl ?_); refine Kd.R_lit (w0 := w) (Kd.int .i64) w.heap.size 3 ?hg (N := 12) ?hd (xs := ([] : List Int)) (inner := []) (ok := fun _ => True) (okp := fun _ => True) ?hr ?hp (fun _ hk => hk) trivial HB.out (below_size HB.out) (by simp) ?_; (case hd => rfl); (case hg => rfl); (case hr => exact zz9); (case hp => exact (Reps.none _ _)); intro vA wA ho hb hg_ hnew_; have HOA := zK_ ho; have HBA := zK_ hb; clear ho hb hg_ hnew_; obtain ⟨Ad, cd, ed⟩ := Kd.R_slice HOA.out; subst ed) | ((with_reducible refine gate_dst (N := 13) rfl ?_); refine Kd.S_lits (w0 := w) (Kd.slice 3 (Kd.int .i64)) w.heap.size 26 ?hg (N := 13) ?hd (xs := ([[]] : List (List Int))) (inner := [.slice Ad 0 cd]) (ok := fun _ => True) (fun j k => j = 0) ?hr rfl ?hp (fun i j k hi hj => hi.trans hj.symm) (fun _ _ _ => trivial) trivial HBA.out (below_size HBA.out) (by simp) ?_; (case hd => rfl); (case hg => rfl); (case hr => exact zz9); (case hp => exact fun j x hx => match j, hx with | 0, rfl => Kd.M_row (Kd.R_mono HOA.out fun _ _ => rfl) | _ + 1, h_ => absurd h_ (by simp)); intro vB wB ho hb hg_ hnew_; have HOB := zK_ ho; have HBB := zK_ hb; clear ho hb hg_ hnew_))); go_ret; exact ⟨_, rfl, HOB.out, HBB.out⟩
 | succ m ih =>
  intro hm w; have HB := zK_ (Below.refl w.heap.size w); have HLn := zK_ (Cf.setsN_len6 hn (k := m) (by omega)); have HOK := zK_ (show ∀ x, x ∈ Cf.setsN n m → x.length = m ∧ (∀ y ∈ x, 0 ≤ y ∧ y < (n : Int)) ∧ Cf.fstS x ≤ n from fun x hx => ⟨(Cf.setsN_ok hx).1, (Cf.setsN_ok hx).2, Cf.fstS_le hx⟩); have e0 : Cf.setsN n (m + 1) = Cf.outS n (Cf.setsN n m) (Cf.setsN n m).length := (Cf.outS_all n _).symm; rw [e0]; have IH := zK_ (ih (by omega)); clear ih e0; generalize Cf.setsN n m = L at HLn HOK IH ⊢; (have hm0 : (m : Int) ≤ 6 := by omega); (have hn0 : (n : Int) ≤ 12 := by omega); (have c1 : (((m + 1 : Nat) : Int) == 0) = false := by simp; omega); (have c2 : wrap64 (((m + 1 : Nat) : Int) - 1) = (m : Int) := by unfold wrap64; omega); have c2w : IntKind.i64.wrap (((m + 1 : Nat) : Int) - 1) = (m : Int) := (i64_w _).trans c2; generalize ((m + 1 : Nat) : Int) = m1 at c1 c2 c2w ⊢; go_enter Try.func78, Try.ntmps78; (go_wp2_with (first | ((with_reducible refine gate_dst (N := 14) rfl ?_); refine Kd.S_lit (w0 := w) (Kd.slice 3 (Kd.int .i64)) w.heap.size 26 ?hg (N := 14) ?hd (xs := ([] : List (List Int))) (inner := []) (ok := fun _ => True) (okp := fun _ => True) ?hr ?hp (fun _ hk => hk) trivial HB.out (below_size HB.out) (by simp) ?_; (case hd => rfl); (case hg => rfl); (case hr => exact zz9); (case hp => exact (Reps.none _ _)); intro v14 w1 ho hb hg_ hnew_; have HS0 := zK_ ho; have HB1 := zK_ hb; clear ho hb hg_ hnew_))); refine (IH.out w1).mono ?_; rintro e w2 ⟨vL, rfl, hS, hb⟩; have HB2 := zK_ (below_step HB1.out hb); obtain ⟨AL, cL, eL, hcL, _⟩ := Kd.S_reads hS; subst eL; have HSL := zK_ (Kd.S_mono (Kd.S_bound hS) (ok' := fun k => w1.heap.size ≤ k ∧ k < w2.heap.size) fun k hk => ⟨hk.2.1, hk.2.2.1⟩); have HSI := zK_ (Kd.S_mono (Kd.S_bound (Kd.S_below (Kd.S_bound HS0.out) hb)) (ok' := fun k => k < w1.heap.size ∨ w2.heap.size ≤ k) fun k hk => .inl hk.1.2.2.1); have HW := zK_ hb.size; have hLl : L.length ≤ cL := hcL; clear hS hb hcL HS0; go_wp2; (go_loopw [5, 20] (fun v5 v20 wr => ∃ i : Nat, v20 = .int .i64 (i : Int) ∧ Aside0 (i ≤ L.length ∧ w2.heap.size ≤ wr.heap.size) ∧ Aside0 (Below w.heap.size w wr) ∧ Aside0 (Kd.S (Kd.slice 3 (Kd.int .i64)) 26 wr w1.heap.size (fun k => w1.heap.size ≤ k ∧ k < w2.heap.size) (.slice AL L.length cL) L) ∧ Aside0 (Kd.S (Kd.slice 3 (Kd.int .i64)) 26 wr w.heap.size (fun k => k < w1.heap.size ∨ w2.heap.size ≤ k) v5 (Cf.outS n L i))) (fun _ v _ => L.length - (intOf v).toNat)); case atStart => exact ⟨0, rfl, ⟨Nat.zero_le _, Nat.le_refl _⟩, HB2, HSL, HSI⟩
  case round =>
   obtain ⟨i, rfl, HI, HBr, HLr, HS⟩ := hrel; by_cases hlt : i < L.length; rotate_left
   ·have c0 : decide ((i : Int) < (L.length : Int)) = false := decide_eq_false (by omega); (have hi : i = L.length := by have := HI.out; omega); subst hi; clear hlt; go_wp2; go_ret; exact ⟨_, rfl, Kd.S_mono HS.out (fun _ _ => trivial), HBr.out⟩
   have c0 : decide ((i : Int) < (L.length : Int)) = true := decide_eq_true (by omega); obtain ⟨x, hxi⟩ : ∃ x, L[i]? = some x := ⟨_, List.getElem?_eq_getElem hlt⟩
   have hx : rd_L3 L (i : Int) = x := by
    unfold rd_L3; rw [Int.toNat_natCast, List.getD_eq_getElem?_getD, hxi]; rfl
   (have p1 : (0 : Int) ≤ (i : Int) := by omega); (have p2 : (i : Int) < (L.length : Int) := by omega); obtain ⟨gL, _, _, eg, _, _, _⟩ := at_L3 (Kd.S_reads' HLr.out).2.2 (i : Int) p1 p2; subst eg; obtain ⟨cc, _, hM, hcell⟩ := Kd.S_get HLr.out ([] : List Int) (i : Int) p1 p2; obtain ⟨vx, hvx, hRx⟩ := hM; subst hvx; replace hcell := hcell 0 vx rfl; rw [show (L.getD ((i : Int)).toNat []) = x from hx] at hRx; (replace hRx := Kd.R_mono hRx (ok' := fun k => w1.heap.size ≤ k ∧ k < w2.heap.size) fun k hk => hk.1); obtain ⟨Ai, ci, ei⟩ := Kd.R_slice hRx; subst ei; rw [Int.toNat_natCast, show i * (Kd.slice 3 (Kd.int .i64)).sz + 0 = i from Nat.mul_one i] at hcell; have HRi := zK_ hRx; clear hRx; (have hib : (i : Int) ≤ 3000000 := by have := HLn.out; omega); have HLT := zK_ hlt; have HXI := zK_ hxi; have hok := HOK.out x (List.mem_of_getElem? hxi); have HOX := zK_ hok; clear hxi hlt hx; (have hxl : (x.length : Int) ≤ 6 := by have := HOX.out.1; omega); (have hfb : (Cf.fstS x : Int) ≤ 12 := by have := HOX.out.2.2; omega); clear hok; by_cases c3 : (x.length : Int) > 0; rotate_left
   ·have dB := decide_eq_false c3; have iS : decide (0 < x.length) = false := decide_eq_false (by omega); (have hf0 : Cf.fstS x = 0 := by unfold Cf.fstS; rw [if_pos (by omega)]); go_wp2; (go_loopw [5, 9] (fun v5 v9 wi => ∃ j : Nat, v9 = .int .i64 (j : Int) ∧ Aside0 (Cf.fstS x ≤ j ∧ j ≤ n ∧ w2.heap.size ≤ wi.heap.size) ∧ Aside0 (Below w.heap.size w wi) ∧ Aside0 (Kd.S (Kd.slice 3 (Kd.int .i64)) 26 wi w1.heap.size (fun k => w1.heap.size ≤ k ∧ k < w2.heap.size) (.slice (some gL) L.length cL) L) ∧ Aside0 (Kd.S (Kd.slice 3 (Kd.int .i64)) 26 wi w.heap.size (fun k => k < w1.heap.size ∨ w2.heap.size ≤ k) v5 (Cf.outS n L i ++ Cf.extS x j)) ∧ Aside0 (Kd.R (Kd.int .i64) 3 wi w1.heap.size (fun k => w1.heap.size ≤ k ∧ k < w2.heap.size) (.slice Ai x.length ci) x)) (fun _ v _ => n - (intOf v).toNat)); case atStart => exact ⟨Cf.fstS x, by rw [hf0]; rfl, ⟨Nat.le_refl _, HOX.out.2.2, HI.out.2⟩, HBr, HLr, ⟨by rw [Cf.extS_self x (Nat.le_refl _), List.append_nil]; exact HS.out⟩, HRi⟩
    case round =>
     obtain ⟨j, rfl, HJ, HBi, HLi, HSi, HRj⟩ := hrel; (have hjb : (j : Int) ≤ 12 := by have := HJ.out; omega); by_cases hj : j < n
     ·have d0 : decide ((j : Int) < (n : Int)) = true := decide_eq_true (by omega); have d1 : decide (j < n) = true := decide_eq_true hj; have HJN := zK_ hj; clear hj; have HLA := zK_ (show (Cf.outS n L i ++ Cf.extS x j).length ≤ 36000000 from by rw [List.length_append]; have a1 := Cf.outS_len n L i; have a2 := Cf.extS_len x j; have a3 := Nat.mul_le_mul hn HLn.out; omega); (go_wp2_with (first | ((with_reducible refine gate_dst (N := 41) rfl ?_); refine Kd.R_lit (w0 := wr) (Kd.int .i64) wr.heap.size 3 ?hg (N := 41) ?hd (xs := ([] : List Int)) (inner := []) (ok := fun _ => True) (okp := fun _ => True) ?hr ?hp (fun _ hk => hk) trivial (Below.refl _ _) (Nat.le_refl _) (by simp) ?_; (case hd => rfl); (case hg => rfl); (case hr => exact zz9); (case hp => exact (Reps.none _ _)); intro vA wA ho hb hg_ hnew_; have HOA := zK_ ho; have HBA := zK_ hb; clear ho hb hg_ hnew_) | ((with_reducible refine gate_builtin (b := .append) (xs := #[.tmp 41, .tmp 42]) rfl ?_); at_builtin; refine Kd.R_append_rows (Kd.int .i64) (w0 := wr) wr.heap.size rfl (.tmp 41) (.tmp 42) 26 3 (.int .i64 0) 8 rfl Try.underlying26 info3 rfl (by decide) (by omega) vA ([] : List Int) x _ _ _ (fun _ => True) (fun _ => False) rfl rfl HOA.out (Kd.C_below (Kd.R_reads' HRj.out).2.2 HBA.out) (fun _ _ h => h) (fun _ h => h.elim) (fun _ _ => trivial) HBA.out (below_size HBA.out) (by have := HOX.out.1; simp only [List.length_nil]; omega) ?_; intro vB wB ho hb hg hat; have HOB := zK_ ho; have HBB := zK_ hb; clear ho hb hg hat) | ((with_reducible refine gate_builtin (b := .append) (xs := #[.tmp 43, .tmp 45]) rfl ?_); at_builtin; refine Kd.R_append (Kd.int .i64) (w0 := wr) wr.heap.size rfl (.tmp 43) (.tmp 45) 26 3 (.int .i64 0) 8 rfl Try.underlying26 info3 rfl (by decide) (by omega) vB ([] ++ x) (j : Int) [.int .i64 (j : Int)] (fun _ => True) (fun _ => False) rfl rfl rfl (fun _ hk => hk.elim) (fun _ _ => trivial) HOB.out HBB.out (below_size HBB.out) (by have := HOX.out.1; simp only [List.nil_append]; omega) ?_; intro vC wC ho hb hg hat; obtain ⟨Ad, cd, ed⟩ := Kd.R_slice ho; subst ed; rw [List.nil_append, show (x ++ [(j : Int)]).length = x.length + 1 from List.length_append] at ho; have HD := zK_ (Kd.R_mono (Kd.R_bound ho) (ok' := fun k => wr.heap.size ≤ k) fun k hk => hk.2.1); have HBC := zK_ hb; clear ho hb hg hat) | ((with_reducible refine gate_builtin (b := .append) (xs := #[.tmp 40, .tmp 47]) rfl ?_); at_builtin; refine Kd.S_append (Kd.slice 3 (Kd.int .i64)) (w0 := w) w.heap.size rfl (.tmp 40) (.tmp 47) 34 26 (.slice none 0 0) 24 rfl Try.underlying34 info26 rfl (by decide) (by omega) u5 (Cf.outS n L i ++ Cf.extS x j) (x ++ [(j : Int)]) [.slice Ad (x.length + 1) cd] (fun k => k < w1.heap.size ∨ w2.heap.size ≤ k) (fun k => wr.heap.size ≤ k) rfl rfl (Kd.M_row (Kd.R_lower HD.out (below_size HBi.out))) (fun k hk => ⟨.inr (by have := HJ.out; omega), fun e => by have := Kd.S_lt HSi.out k e.symm; omega⟩) (fun k hk => .inr (by have := HJ.out; have := HBC.out.size; omega)) (Kd.S_mono (Kd.S_below (Kd.S_bound HSi.out) HBC.out) fun k hk => ⟨hk.1, fun h => by have := hk.2.2.1; omega⟩) (below_step HBi.out HBC.out) (below_size (below_step HBi.out HBC.out)) (by have := HLA.out; omega) ?_; intro vE wE ho hb hg hat; have HOE := zK_ ho; have HBE := zK_ hb; have HLE := zK_ (Kd.S_grown (Kd.S_below (Kd.S_bound HLi.out) HBC.out) hg fun k hk e => by have := HSi.out.choose_spec.1 k e.symm; have := hk.1; omega); have HZE := zK_ hg.size; have HRE := zK_ (Kd.R_step (Kd.R_below HRj.out HBC.out) fun k hk hlt => hg.block k hlt fun e => by have := HSi.out.choose_spec.1 k e.symm; have := hk.1; have := hk.2; omega); clear ho hb hg hat))); go_roundw
      case rel =>
       refine ⟨j + 1, by go_num, ⟨by have := HJ.out; omega, by have := HJN.out; omega, by have := HBC.out.size; have := HZE.out; have := HJ.out; omega⟩, HBE, ⟨Kd.S_mono HLE.out fun k hk => hk.1⟩, ⟨?_⟩, HRE⟩; rw [Cf.extS_succ x HJ.out.1, ← List.append_assoc]; exact HOE.out
      case measure =>
       have := HJN.out; (simp [intOf]); omega
     have d0 : decide ((j : Int) < (n : Int)) = false := decide_eq_false (by omega); have d1 : decide (j < n) = false := decide_eq_false hj; (have hjn : j = n := by have := HJ.out; omega); subst hjn; clear hj; go_wp2; go_roundw
     case rel =>
      refine ⟨i + 1, by go_num, ⟨by have := HLT.out; omega, HJ.out.2.2⟩, HBi, HLi, ⟨?_⟩⟩; rw [Cf.outS_succ _ HXI.out]; exact HSi.out
     case measure =>
      have := HLT.out; (simp [intOf]); omega
   have dB := decide_eq_true c3; have iS : decide (0 < x.length) = true := decide_eq_true (by omega); obtain ⟨ji, hji⟩ : ∃ j_ : Int, (wrap64 ((x.length : Int) - 1)) = j_ := ⟨_, rfl⟩; have hjiw : (IntKind.i64.wrap ((x.length : Int) - 1)) = ji := (i64_w _).trans hji; (have hje : ji = (x.length : Int) - 1 := by rw [← hji]; unfold wrap64; omega); (have q1 : 0 ≤ ji := by omega); (have q2 : ji < (x.length : Int) := by omega); obtain ⟨ad, ea, hxa⟩ := Kd.at_int (Kd.R_reads' HRi.out).2.2 ji q1 q2; subst ea
   have hrd : rd x ji + 1 = (Cf.fstS x : Int) := by
    (have hl : 0 < x.length := by omega); (have hg : ji.toNat = x.length - 1 := by omega); have hmem := HOX.out.2.1 _ (List.getElem_mem (l := x) (n := x.length - 1) (by omega)); unfold rd Cf.fstS; rw [if_neg (by omega), hg, List.getD_eq_getElem?_getD, List.getElem?_eq_getElem (by omega)]; simp only [Option.getD_some]; omega
   (have hfw : wrap64 (rd x ji + 1) = (Cf.fstS x : Int) := by rw [hrd]; unfold wrap64; omega); have hfww : IntKind.i64.wrap (rd x ji + 1) = (Cf.fstS x : Int) := (i64_w _).trans hfw; clear hje hrd; have q1b : decide (0 ≤ ji) = true := decide_eq_true q1; have q2b : decide (ji < (x.length : Int)) = true := decide_eq_true q2; replace q1 := eq_true q1; replace q2 := eq_true q2; go_wp2; (go_loopw [5, 9] (fun v5 v9 wi => ∃ j : Nat, v9 = .int .i64 (j : Int) ∧ Aside0 (Cf.fstS x ≤ j ∧ j ≤ n ∧ w2.heap.size ≤ wi.heap.size) ∧ Aside0 (Below w.heap.size w wi) ∧ Aside0 (Kd.S (Kd.slice 3 (Kd.int .i64)) 26 wi w1.heap.size (fun k => w1.heap.size ≤ k ∧ k < w2.heap.size) (.slice (some gL) L.length cL) L) ∧ Aside0 (Kd.S (Kd.slice 3 (Kd.int .i64)) 26 wi w.heap.size (fun k => k < w1.heap.size ∨ w2.heap.size ≤ k) v5 (Cf.outS n L i ++ Cf.extS x j)) ∧ Aside0 (Kd.R (Kd.int .i64) 3 wi w1.heap.size (fun k => w1.heap.size ≤ k ∧ k < w2.heap.size) (.slice (some ad) x.length ci) x)) (fun _ v _ => n - (intOf v).toNat)); case atStart => exact ⟨Cf.fstS x, rfl, ⟨Nat.le_refl _, HOX.out.2.2, HI.out.2⟩, HBr, HLr, ⟨by rw [Cf.extS_self x (Nat.le_refl _), List.append_nil]; exact HS.out⟩, HRi⟩
   case round =>
    obtain ⟨j, rfl, HJ, HBi, HLi, HSi, HRj⟩ := hrel; (have hjb : (j : Int) ≤ 12 := by have := HJ.out; omega); by_cases hj : j < n
    ·have d0 : decide ((j : Int) < (n : Int)) = true := decide_eq_true (by omega); have d1 : decide (j < n) = true := decide_eq_true hj; have HJN := zK_ hj; clear hj; have HLA := zK_ (show (Cf.outS n L i ++ Cf.extS x j).length ≤ 36000000 from by rw [List.length_append]; have a1 := Cf.outS_len n L i; have a2 := Cf.extS_len x j; have a3 := Nat.mul_le_mul hn HLn.out; omega); (go_wp2_with (first | ((with_reducible refine gate_dst (N := 41) rfl ?_); refine Kd.R_lit (w0 := wr) (Kd.int .i64) wr.heap.size 3 ?hg (N := 41) ?hd (xs := ([] : List Int)) (inner := []) (ok := fun _ => True) (okp := fun _ => True) ?hr ?hp (fun _ hk => hk) trivial (Below.refl _ _) (Nat.le_refl _) (by simp) ?_; (case hd => rfl); (case hg => rfl); (case hr => exact zz9); (case hp => exact (Reps.none _ _)); intro vA wA ho hb hg_ hnew_; have HOA := zK_ ho; have HBA := zK_ hb; clear ho hb hg_ hnew_) | ((with_reducible refine gate_builtin (b := .append) (xs := #[.tmp 41, .tmp 42]) rfl ?_); at_builtin; refine Kd.R_append_rows (Kd.int .i64) (w0 := wr) wr.heap.size rfl (.tmp 41) (.tmp 42) 26 3 (.int .i64 0) 8 rfl Try.underlying26 info3 rfl (by decide) (by omega) vA ([] : List Int) x _ _ _ (fun _ => True) (fun _ => False) rfl rfl HOA.out (Kd.C_below (Kd.R_reads' HRj.out).2.2 HBA.out) (fun _ _ h => h) (fun _ h => h.elim) (fun _ _ => trivial) HBA.out (below_size HBA.out) (by have := HOX.out.1; simp only [List.length_nil]; omega) ?_; intro vB wB ho hb hg hat; have HOB := zK_ ho; have HBB := zK_ hb; clear ho hb hg hat) | ((with_reducible refine gate_builtin (b := .append) (xs := #[.tmp 43, .tmp 45]) rfl ?_); at_builtin; refine Kd.R_append (Kd.int .i64) (w0 := wr) wr.heap.size rfl (.tmp 43) (.tmp 45) 26 3 (.int .i64 0) 8 rfl Try.underlying26 info3 rfl (by decide) (by omega) vB ([] ++ x) (j : Int) [.int .i64 (j : Int)] (fun _ => True) (fun _ => False) rfl rfl rfl (fun _ hk => hk.elim) (fun _ _ => trivial) HOB.out HBB.out (below_size HBB.out) (by have := HOX.out.1; simp only [List.nil_append]; omega) ?_; intro vC wC ho hb hg hat; obtain ⟨Ad, cd, ed⟩ := Kd.R_slice ho; subst ed; rw [List.nil_append, show (x ++ [(j : Int)]).length = x.length + 1 from List.length_append] at ho; have HD := zK_ (Kd.R_mono (Kd.R_bound ho) (ok' := fun k => wr.heap.size ≤ k) fun k hk => hk.2.1); have HBC := zK_ hb; clear ho hb hg hat) | ((with_reducible refine gate_builtin (b := .append) (xs := #[.tmp 40, .tmp 47]) rfl ?_); at_builtin; refine Kd.S_append (Kd.slice 3 (Kd.int .i64)) (w0 := w) w.heap.size rfl (.tmp 40) (.tmp 47) 34 26 (.slice none 0 0) 24 rfl Try.underlying34 info26 rfl (by decide) (by omega) u5 (Cf.outS n L i ++ Cf.extS x j) (x ++ [(j : Int)]) [.slice Ad (x.length + 1) cd] (fun k => k < w1.heap.size ∨ w2.heap.size ≤ k) (fun k => wr.heap.size ≤ k) rfl rfl (Kd.M_row (Kd.R_lower HD.out (below_size HBi.out))) (fun k hk => ⟨.inr (by have := HJ.out; omega), fun e => by have := Kd.S_lt HSi.out k e.symm; omega⟩) (fun k hk => .inr (by have := HJ.out; have := HBC.out.size; omega)) (Kd.S_mono (Kd.S_below (Kd.S_bound HSi.out) HBC.out) fun k hk => ⟨hk.1, fun h => by have := hk.2.2.1; omega⟩) (below_step HBi.out HBC.out) (below_size (below_step HBi.out HBC.out)) (by have := HLA.out; omega) ?_; intro vE wE ho hb hg hat; have HOE := zK_ ho; have HBE := zK_ hb; have HLE := zK_ (Kd.S_grown (Kd.S_below (Kd.S_bound HLi.out) HBC.out) hg fun k hk e => by have := HSi.out.choose_spec.1 k e.symm; have := hk.1; omega); have HZE := zK_ hg.size; have HRE := zK_ (Kd.R_step (Kd.R_below HRj.out HBC.out) fun k hk hlt => hg.block k hlt fun e => by have := HSi.out.choose_spec.1 k e.symm; have := hk.1; have := hk.2; omega); clear ho hb hg hat))); go_roundw
     case rel =>
      refine ⟨j + 1, by go_num, ⟨by have := HJ.out; omega, by have := HJN.out; omega, by have := HBC.out.size; have := HZE.out; have := HJ.out; omega⟩, HBE, ⟨Kd.S_mono HLE.out fun k hk => hk.1⟩, ⟨?_⟩, HRE⟩; rw [Cf.extS_succ x HJ.out.1, ← List.append_assoc]; exact HOE.out
     case measure =>
      have := HJN.out; (simp [intOf]); omega
    have d0 : decide ((j : Int) < (n : Int)) = false := decide_eq_false (by omega); have d1 : decide (j < n) = false := decide_eq_false hj; (have hjn : j = n := by have := HJ.out; omega); subst hjn; clear hj; go_wp2; go_roundw
    case rel =>
     refine ⟨i + 1, by go_num, ⟨by have := HLT.out; omega, HJ.out.2.2⟩, HBi, HLi, ⟨?_⟩⟩; rw [Cf.outS_succ _ HXI.out]; exact HSi.out
    case measure =>
     have := HLT.out; (simp [intOf]); omega
theorem spec_l03Sets.calls (a0 a1 : Int) (r : List (List Int)) (w : World) (h : spec_l03Sets.f a0 a1 = some r) :
  Calls Try.prog 78 #[.int .i64 a0, .int .i64 a1] w fun e w' => ∃ v0_ : Value, e = .returned (v0_) ∧ Kd.S (Kd.slice 3 (Kd.int .i64)) 26 w' w.heap.size (fun _ => True) v0_ r ∧ Below w.heap.size w w' := by
 unfold spec_l03Sets.f at h; split at h
 ·rename_i c; obtain ⟨h0, h1, h2, h3⟩ := c; obtain ⟨n, rfl⟩ := Int.eq_ofNat_of_zero_le h0; obtain ⟨m, rfl⟩ := Int.eq_ofNat_of_zero_le h2; obtain rfl := Option.some.inj h; exact spec_l03Sets.callsN n (by omega) m (by omega) w
 ·cases h
end Go.Proofs.Ytnbljcgdgblgoaa.P
end

section
namespace Go.Proofs.Ytnbljcgdgblgoaa.Cf
set_option linter.unusedVariables false
set_option linter.unusedSimpArgs false
open Go.RowKit Go.Proofs.YtnbljcgdgblgoaaW.PrintWords Go.Proofs.Ytnbljcgdgblgoaa.P
theorem lapRow_take {n : Nat} (es : List E) (a : Int) {v : Nat} (hv : v < n) : (lapRow n es a).take (v + 1) = (lapRow n es a).take v ++ [lapM es a (v : Int)] := by
 rw [List.take_succ_eq_append_getElem (by unfold lapRow; rw [repL_len]; exact hv)]
 unfold lapRow repL
 simp
theorem lapRow_len (n : Nat) (es : List E) (a : Int) : (lapRow n es a).length = n := by unfold lapRow; rw [repL_len]
theorem specLap_l1 {n : Nat} {es : List E} (hes : ∀ e ∈ es, EOk n e) (hel : es.length ≤ 12) (hn : n ≤ 6) {M : List (List Int)} (hM : M.length ≤ 6) {v : Nat} (hv : v < n) {Q : List (List Int) → Prop}
  (hQ : Ep (fun k => spec_LaplacianOf.l0 k (M ++ [lapRow n es (v : Int)]) ((v + 1 : Nat) : Int) (n : Int) es) Q) : ∀ (d i : Nat), i + d = n →
  Ep (fun k => spec_LaplacianOf.l1 k M (v : Int) ((lapRow n es (v : Int)).take i) (i : Int) (n : Int) es) Q := by
 intro d
 induction d with
 | zero =>
  intro i hi
  refine Ep.up ?_
  simp only [spec_LaplacianOf.l1]
  refine Ep.neg (by omega) (Ep.pos (by omega) ?_)
  rw [wrap_succ (by omega), List.take_of_length_le (by rw [lapRow_len]; omega)]
  exact hQ
 | succ d ih =>
  intro i hi
  have h := ih (i + 1) (by omega)
  rw [lapRow_take es _ (by omega)] at h
  have hl : ((lapRow n es (v : Int)).take i).length ≤ 6 := by rw [List.length_take, lapRow_len]; omega
  refine Ep.up ?_
  simp only [spec_LaplacianOf.l1]
  refine Ep.pos (by omega) ?_
  rw [wrap_succ (by omega)]
  by_cases c : v = i
  ·refine Ep.pos (by omega) (Ep.bind (specValence _ es _ (by omega)) ?_)
   rintro _ rfl
   refine Ep.pos (by omega) ?_
   rw [valG_in ⟨by omega, by omega⟩]
   have e : lapM es (v : Int) (i : Int) = val es (v : Int) := by
    unfold lapM
    rw [if_pos (by omega)]
   rw [e] at h
   exact h
  ·refine Ep.neg (by omega) (Ep.bind (specMult _ es hes hel _ _ ⟨by omega, by omega⟩ ⟨by omega, by omega⟩) ?_)
   rintro _ rfl
   have hm0 := mult_nonneg es (v : Int) (i : Int)
   have hm1 := mult_le es (v : Int) (i : Int)
   refine Ep.pos (by omega) ?_
   have e : lapM es (v : Int) (i : Int) = - mult es (v : Int) (i : Int) := by
    unfold lapM
    rw [if_neg (by omega)]
   rw [e] at h
   rw [wrap_id (by omega) (by omega)]
   exact h
theorem specLap_l0 {n : Nat} {es : List E} (hes : ∀ e ∈ es, EOk n e) (hel : es.length ≤ 12) (hn : n ≤ 6) : ∀ (d v : Nat), v + d = n → Ep (fun k => spec_LaplacianOf.l0 k ((lapL n es).take v) (v : Int) (n : Int) es) (· = lapL n es) := by
 intro d
 induction d with
 | zero =>
  intro v hv
  refine Ep.up ?_
  simp only [spec_LaplacianOf.l0]
  refine Ep.neg (by omega) (Ep.now ?_)
  rw [List.take_of_length_le (by rw [lapL_len]; omega)]
 | succ d ih =>
  intro v hv
  have h1 := ih (v + 1) (by omega)
  rw [lapL_take es (by omega)] at h1
  refine Ep.up ?_
  simp only [spec_LaplacianOf.l0]
  refine Ep.pos (by omega) ?_
  exact specLap_l1 hes hel hn (by rw [List.length_take]; omega) (by omega) h1 n 0 (by omega)
theorem specLap {n : Nat} {es : List E} (hg : GOk (n : Int) es) : Ep (fun k => spec_LaplacianOf.f k (n : Int) es) (· = lapL n es) := by
 have hG := hg.1
 unfold EsOk at hG
 simp only [spec_LaplacianOf.f]
 refine Ep.bind (specGraph _ _) ?_
 rintro _ rfl
 refine Ep.pos (gOk_iff.2 hg) ?_
 have := specLap_l0 (n := n) hG.2.2.2 hG.2.2.1 (by omega) n 0 (by omega)
 simpa using this
theorem specRL {n : Nat} {es : List E} (hg : GOk (n : Int) es) {q : Nat} (hq : q < n) : Ep (fun k => spec_ReducedLaplacian.f k (n : Int) es (q : Int)) (· = redM n es q) := by
 have hG := hg.1
 unfold EsOk at hG
 simp only [spec_ReducedLaplacian.f]
 refine Ep.bind (specGraph _ _) ?_
 rintro _ rfl
 refine Ep.pos (gOk_iff.2 hg) ?_
 rw [wrap_id (x := (n : Int) - 1) (by omega) (by omega)]
 refine Ep.bind0 (l01In_eq _ _ _) ?_
 refine Ep.pos (by simp; omega) ?_
 refine Ep.bind (specLap hg) ?_
 rintro _ rfl
 have hr : ∀ r ∈ lapL n es, r.length = n := fun r hr => by
  unfold lapL at hr
  obtain ⟨i, _, rfl⟩ := List.mem_map.1 hr
  exact lapRow_len n es _
 refine Ep.pos (fun r h => by rw [hr r h]; omega) ?_
 have e : redF (q : Int) (lapL n es) = some (redM n es q) := by
  unfold redF
  rw [if_pos, Int.toNat_natCast, keep_red]
  exact ⟨by omega, by omega, by rw [lapL_len]; omega, fun r h => by rw [hr r h]; omega⟩
 exact Ep.congr (fun _ => e) (Ep.now rfl)
theorem row_at {m : Nat} {M : List (List Int)} (hM : SqOk m M) {i : Nat} (hi : i < m) : rd_L3 M (i : Int) ∈ M := by
 unfold rd_L3
 rw [Int.toNat_natCast, List.getD_eq_getElem?_getD, List.getElem?_eq_getElem (by have := hM.1; omega)]
 exact List.getElem_mem _
theorem specMat_l1 {m : Nat} (hm : m ≤ 5) {M : List (List Int)} (hM : SqOk m M) {i : Nat} (hi : i < m) {r : List Int} (hr : r ∈ M) (hn : Ep (fun k => spec_MatrixOk.l0 k M M (m : Int) ((i + 1 : Nat) : Int)) (· = true)) :
  ∀ (d j : Nat), j + d = m → Ep (fun k => spec_MatrixOk.l1 k M M (m : Int) (i : Int) r (m : Int) (j : Int)) (· = true) := by
 have hl := hM.2.1 r hr
 intro d
 induction d with
 | zero =>
  intro j hj
  refine Ep.up ?_
  simp only [spec_MatrixOk.l1]
  refine Ep.neg (by omega) ?_
  rw [wrap_succ (by omega)]
  exact hn
 | succ d ih =>
  intro j hj
  have hb := rd_bd (hM.2.2 r hr) (j : Int)
  refine Ep.up ?_
  simp only [spec_MatrixOk.l1]
  refine Ep.pos (by omega) (Ep.pos (by omega) (Ep.pos (by omega) (Ep.bind0 (l01In_eq _ _ _) (Ep.pos (by simp; omega) ?_))))
  rw [wrap_succ (by omega)]
  exact ih (j + 1) (by omega)
theorem specMat_l0 {m : Nat} (hm : m ≤ 5) {M : List (List Int)} (hM : SqOk m M) : ∀ (d i : Nat), i + d = m → Ep (fun k => spec_MatrixOk.l0 k M M (m : Int) (i : Int)) (· = true) := by
 have hM1 := hM.1
 intro d
 induction d with
 | zero =>
  intro i hi
  refine Ep.up ?_
  simp only [spec_MatrixOk.l0]
  exact Ep.neg (by omega) (Ep.now rfl)
 | succ d ih =>
  intro i hi
  have hr := row_at hM (i := i) (by omega)
  have hl := hM.2.1 _ hr
  refine Ep.up ?_
  simp only [spec_MatrixOk.l0]
  refine Ep.pos (by omega) (Ep.pos (by omega) (Ep.pos (by omega) (Ep.pos (by omega) ?_)))
  rw [hl]
  exact specMat_l1 hm hM (by omega) hr (ih (i + 1) (by omega)) m 0 (by omega)
theorem specMatrixOk {m : Nat} (hm : m ≤ 5) {M : List (List Int)} (hM : SqOk m M) : Ep (fun k => spec_MatrixOk.f k M) (· = true) := by
 have hM1 := hM.1
 simp only [spec_MatrixOk.f]
 refine Ep.neg (by omega) ?_
 rw [hM1]
 exact specMat_l0 hm hM m 0 (by omega)
theorem specDet_l0 {m : Nat} (hm : m ≤ 5) {M : List (List Int)} (hM : SqOk m M) {r : Int} {rs : List Int} (hr : 0 ≤ r ∧ r < m) (hrs : rs.length ≤ 4) {cs : List Int} (hcs : cs.length ≤ 6) (hc : ∀ c ∈ cs, 0 ≤ c ∧ c < (m : Int))
  (ih : ∀ cs' : List Int, cs'.length ≤ 6 → (∀ c ∈ cs', 0 ≤ c ∧ c < (m : Int)) → Ep (fun k => spec_l03Det.f k M rs cs') (· = detL M rs cs')) :
  ∀ (d p : Nat) (s σ : Int), p + d = cs.length → (σ = 1 ∨ σ = -1) → (-(p * 23219011584 : Int) ≤ s ∧ s ≤ p * 23219011584) →
   Ep (fun k => spec_l03Det.l0 k M (r :: rs) cs s σ cs (cs.length : Int) (p : Int))
    (· = s + σ * alt (cs.length - p) fun i => ent M r (cs.getD (p + i) 0) * detL M rs (cs.eraseIdx (p + i))) := by
 have hM1 := hM.1
 have hrow : (rd_L3 M r).length = m := by
  unfold rd_L3
  rw [List.getD_eq_getElem?_getD, List.getElem?_eq_getElem (by have := hM.1; omega)]
  exact hM.2.1 _ (List.getElem_mem _)
 intro d
 induction d with
 | zero =>
  intro p s σ hp hσ hs
  refine Ep.up ?_
  simp only [spec_l03Det.l0]
  refine Ep.neg (by omega) (Ep.now ?_)
  rw [show cs.length - p = 0 by omega]
  simp [alt]
 | succ d ihd =>
  intro p s σ hp hσ hs
  have hlt : p < cs.length := by omega
  have e0 : rd (r :: rs) 0 = r := rfl
  have ec : rd cs (p : Int) = cs[p] := by
   rw [rd_nat, List.getD_eq_getElem?_getD, List.getElem?_eq_getElem hlt]
   rfl
  have hcp := hc _ (List.getElem_mem hlt)
  have eg : cs.getD p 0 = cs[p] := by
   rw [List.getD_eq_getElem?_getD, List.getElem?_eq_getElem hlt]
   rfl
  have hent : rd (rd_L3 M r) (cs[p]) = ent M r (cs.getD p 0) := by rw [eg]; rfl
  have hbd := hM.ent r (cs.getD p 0)
  have hle : (cs.eraseIdx p).length ≤ 6 := by rw [List.length_eraseIdx]; split <;> omega
  have hdb := det_bd hM (rs := rs) (cs := cs.eraseIdx p) (by omega) hle
  have hsplit : cs.length - p = (cs.length - (p + 1)) + 1 := by omega
  have hneg : wrap64 (-σ) = -σ := wrap_id (by omega) (by omega)
  refine Ep.up ?_
  simp only [spec_l03Det.l0]
  rw [e0, ec, hent, hneg, wrap_succ (by omega)]
  refine Ep.pos (by omega) (Ep.pos (by omega) (Ep.pos (by omega) (Ep.pos (by rw [List.length_cons]; omega) (Ep.pos (by omega) (Ep.pos (by omega) (Ep.pos (by omega) (Ep.pos (by omega) ?_)))))))
  rw [hsplit, alt_shift _ (fun i => ent M r (cs.getD i 0) * detL M rs (cs.eraseIdx i))]
  by_cases hz : ent M r (cs.getD p 0) = 0
  ·refine Ep.pos hz ?_
   refine (ihd (p + 1) s (-σ) (by omega) (by omega) (by omega)).mono fun v hv => ?_
   rw [hv, hz, Int.zero_mul, Int.zero_sub, Int.mul_neg, Int.neg_mul]
  ·refine Ep.neg hz (Ep.bind0 rfl (Ep.pos (by omega) (Ep.pos (by simp only [List.length_nil, List.length_take]; omega) (Ep.bind0 rfl (Ep.pos (by omega) (Ep.pos (by omega) (Ep.pos (by simp only [List.nil_append, List.length_take, List.length_drop]; omega) (Ep.pos (by rw [List.length_cons]; omega) ?_))))))))
   rw [List.nil_append, Int.toNat_natCast, Int.toNat_natCast, ← List.eraseIdx_eq_take_drop_succ, show (r :: rs).drop 1 = rs from rfl]
   refine Ep.bind (ih _ hle fun c h => hc c (List.mem_of_mem_eraseIdx h)) ?_
   rintro _ rfl
   have hprod := mul_bd hbd hdb
   have e5 : wrap64 (σ * ent M r (cs.getD p 0)) = σ * ent M r (cs.getD p 0) := by
    rcases hσ with rfl | rfl
    ·exact wrap_id (by omega) (by omega)
    ·exact wrap_id (by omega) (by omega)
   have e6 : σ * ent M r (cs.getD p 0) * detL M rs (cs.eraseIdx p) = σ * (ent M r (cs.getD p 0) * detL M rs (cs.eraseIdx p)) := Int.mul_assoc _ _ _
   have hb2 : -(23219011584 : Int) ≤ σ * (ent M r (cs.getD p 0) * detL M rs (cs.eraseIdx p)) ∧ σ * (ent M r (cs.getD p 0) * detL M rs (cs.eraseIdx p)) ≤ 23219011584 := by
    rcases hσ with rfl | rfl <;> omega
   rw [e5, e6]
   have e7 : wrap64 (σ * (ent M r (cs.getD p 0) * detL M rs (cs.eraseIdx p))) = σ * (ent M r (cs.getD p 0) * detL M rs (cs.eraseIdx p)) := wrap_id (by omega) (by omega)
   have e8 : wrap64 (s + σ * (ent M r (cs.getD p 0) * detL M rs (cs.eraseIdx p))) = s + σ * (ent M r (cs.getD p 0) * detL M rs (cs.eraseIdx p)) := wrap_id (by omega) (by omega)
   rw [e7, e8]
   refine (ihd (p + 1) _ (-σ) (by omega) (by omega) (by omega)).mono fun v hv => ?_
   rw [hv, Int.mul_sub, Int.neg_mul]
   omega
theorem specDet {m : Nat} (hm : m ≤ 5) {M : List (List Int)} (hM : SqOk m M) : ∀ (rs : List Int), rs.length ≤ 5 → (∀ r ∈ rs, 0 ≤ r ∧ r < (m : Int)) → ∀ cs : List Int, cs.length ≤ 6 → (∀ c ∈ cs, 0 ≤ c ∧ c < (m : Int)) → Ep (fun k => spec_l03Det.f k M rs cs) (· = detL M rs cs)
 | [], _, _, cs, _, _ => by
  refine Ep.up ?_
  simp only [spec_l03Det.f]
  exact Ep.pos rfl (Ep.now rfl)
 | r :: rs, hl, hr, cs, hcl, hc => by
  have hr0 := hr r List.mem_cons_self
  have ih := specDet hm hM rs (by simp at hl; omega) (fun x hx => hr x (List.mem_cons_of_mem _ hx))
  refine Ep.up ?_
  simp only [spec_l03Det.f]
  refine Ep.neg (by rw [List.length_cons]; omega) ?_
  refine (specDet_l0 hm hM hr0 (by simp at hl; omega) hcl hc ih cs.length 0 0 1 (by omega) (Or.inl rfl) (by omega)).mono fun v hv => ?_
  rw [hv]
  simp only [Nat.sub_zero, Nat.zero_add, Int.zero_add, Int.one_mul]
  rfl
end Go.Proofs.Ytnbljcgdgblgoaa.Cf
end

section
namespace Go.Proofs.Ytnbljcgdgblgoaa.P
open Go.RowKit Go.Proofs.YtnbljcgdgblgoaaW.PrintWords Go.Proofs.YtnbljcgdgblgoaaW.PrintLast Go.Proofs.YtnbljcgdgblgoaaW.PrintMore
attribute [local go_sem] max2_int min2_int max_two min_two max_three min_three max_four min_four
set_option linter.unusedVariables false
set_option linter.unusedSimpArgs false
def impl_edgesOf.l0 : Nat → List (S57) → List Int → Int → Int → Int → List (S57) → Option ((List (S57)))
 | 0, _, _, _, _, _, _ => none
 | k + 1, x5, x8, x9, fE, aM, aJ => if fE < x9 then (if 0 ≤ fE then (if fE < (x8.length : Int) then (if 0 ≤ (rd x8 fE) then (if (rd x8 fE) < (aJ.length : Int) then (if x5.length < 8796093022208 then (impl_edgesOf.l0 k (x5 ++ [(⟨(rd_T57 aJ (rd x8 fE)).f0, (rd_T57 aJ (rd x8 fE)).f1⟩ : S57)]) x8 x9 (wrap64 (fE + 1)) aM aJ) else (none)) else (none)) else (none)) else (none)) else (none)) else (some x5)
def impl_edgesOf.f (k : Nat) (aD : Int) (aC : List (S57)) (l1 : List Int) : Option ((List (S57))) := impl_edgesOf.l0 k ([] : List (S57)) l1 (l1.length : Int) 0 aD aC
theorem impl_edgesOf.mono_l : ∀ k, (∀ y0 y1 y2 y3 y4 y5, LeO (impl_edgesOf.l0 k y0 y1 y2 y3 y4 y5) (impl_edgesOf.l0 (k + 1) y0 y1 y2 y3 y4 y5))
 | 0 => fun _ _ _ _ _ _ r h => by simp [impl_edgesOf.l0] at h
 | k + 1 => by
  have ih0 := impl_edgesOf.mono_l k
  ·intro y0 y1 y2 y3 y4 y5
   unfold impl_edgesOf.l0
   exact zm0
theorem impl_edgesOf.mono : ∀ a0 a1 a2 k, LeO (impl_edgesOf.f k a0 a1 a2) (impl_edgesOf.f (k + 1) a0 a1 a2) := by
 intro a0 a1 a2 k; have ih0 := impl_edgesOf.mono_l k; unfold impl_edgesOf.f; exact zm0
theorem impl_edgesOf.calls (k : Nat) (aD : Int) (aH : Option Addr) (aG : Nat) (aC : List (S57)) (A1 : Option Addr) (c1 : Nat) (l1 : List Int) (r : List (S57)) (w : World) (hr0_1 : Kd.C k57 w aH aC.length aC) (hc0_1 : aC.length ≤ aG) (hr1 : Kd.C (Kd.int .i64) w A1 l1.length l1) (hc1 : l1.length ≤ c1) (h : impl_edgesOf.f k aD aC l1 = some r) :
  Calls Try.prog 53 #[.agg #[.int .i64 aD, .slice aH aC.length aG], .slice A1 l1.length c1] w fun e w' => ∃ v0_ : Value, e = .returned (v0_) ∧ Kd.R k57 57 w' w.heap.size (fun _ => True) v0_ r ∧ Below w.heap.size w w' := by
 have hu25 := Try.underlying25; have hu57 := Try.underlying57; have bM := zK_ hr0_1; have bG := zK_ hc0_1; clear hr0_1 hc0_1; have HR1 := zK_ hr1; have HC1 := zK_ hc1; clear hr1 hc1; have HB := zK_ (Below.refl w.heap.size w); have H : (impl_edgesOf.l0 k ([] : List (S57)) l1 (l1.length : Int) 0 aD aC) = some r := h; clear h; have H' := zK_ H; clear H; go_enter Try.func53, Try.ntmps53; (go_wp2_with (first | ((with_reducible refine gate_dst (N := 2) rfl ?_); refine box_event ?hg (N := 2) ?hd (cs := #[.int .i64 aD, .slice aH aC.length aG]) (t := 25) ?hr ?_; (case hd => rfl); (case hg => rfl); (case hr => exact zz9); intro aE hg w3 hbox hb; have n_ := zA4 (below_step zz1 hb) hbox (zz10 : w.heap.size ≤ aE) (zz10 : w.heap.size ≤ aE); clear HB; obtain ⟨HB, aA, GW101, GE101⟩ := n_; clear hb hbox hg))); (go_loopg [5, 10] k (fun kq v5 v10 w' => ∃ (aN : List (S57)) (bX : Int), v10 = .int .i64 bX ∧ Aside0 (impl_edgesOf.l0 kq aN l1 (l1.length : Int) bX aD aC = some r) ∧ Aside0 (kq ≤ k) ∧ Aside0 (Kd.R k57 57 w' w.heap.size (fun _ => True) v5 aN) ∧ Aside0 (w'.heap[aE]? = some (.cells #[.int .i64 aD, (.slice aH aC.length aG)] 25 (0, 0))) ∧ Aside0 (Below w.heap.size w w'))); case atStart => exact ⟨(([] : List (S57))), (0), zz5, H', ⟨Nat.le_refl _⟩, ⟨zz42⟩, ⟨zz2⟩, ⟨zz0⟩⟩
 case round =>
  clear H'; (try clear c1); (try clear p2); obtain ⟨aN, bX, rfl, HA, HK1, bY, aA, HB⟩ := hrel
  cases gk with
  | zero => exact absurd HA.out (by simp [impl_edgesOf.l0])
  | succ k1 =>
   have H := HA.out; clear HA; simp only [impl_edgesOf.l0] at H; by_cases c4 : bX < (l1.length : Int); rotate_left
   ·rw [if_neg c4] at H; have cY := decide_eq_false c4; clear c4; obtain rfl := Option.some.inj H; go_wp2; go_ret; exact ⟨_, zz7, zz23, zz0⟩
   rw [if_pos c4] at H; have cY := decide_eq_true c4; clear c4; by_cases c5 : 0 ≤ bX; rotate_left
   ·rw [if_neg c5] at H; exact absurd H (by simp)
   rw [if_pos c5] at H; have dF := decide_eq_true c5; clear c5; by_cases c6 : bX < (l1.length : Int); rotate_left
   ·rw [if_neg c6] at H; exact absurd H (by simp)
   rw [if_pos c6] at H; have eN := decide_eq_true c6; clear c6; by_cases c7 : 0 ≤ (rd l1 bX); rotate_left
   ·rw [if_neg c7] at H; exact absurd H (by simp)
   rw [if_pos c7] at H; have dL := decide_eq_true c7; clear c7; by_cases c8 : (rd l1 bX) < (aC.length : Int); rotate_left
   ·rw [if_neg c8] at H; exact absurd H (by simp)
   rw [if_pos c8] at H; have fL := decide_eq_true c8; clear c8; by_cases c9 : aN.length < 8796093022208; rotate_left
   ·rw [if_neg c9] at H; exact absurd H (by simp)
   rw [if_pos c9] at H; have rK := zK_ c9; clear c9; obtain ⟨kI, hy_⟩ : ∃ y_ : List (S57), y_ = (aN ++ [(⟨(rd_T57 aC (rd l1 bX)).f0, (rd_T57 aC (rd l1 bX)).f1⟩ : S57)]) := ⟨_, rfl⟩; (replace H : (impl_edgesOf.l0 k1 kI l1 (l1.length : Int) (wrap64 (bX + 1)) aD aC) = some r := zzY); have jP := zK_ hy_; clear hy_; have H' := zK_ H; clear H; have p102 : 0 ≤ (bX : Int) := of_decide_eq_true zz3; have q102 : bX < (l1.length : Int) := of_decide_eq_true zz3; obtain ⟨cO, e102, a7⟩ := Kd.at_int HR1.out bX p102 q102; cases e102; replace a7 := (HB.out.cell (World.block_lt_of_cell? w _ a7)).trans a7; replace p102 := eq_true p102; replace q102 := eq_true q102; have cN := zC20 aA; have cM := zC21 aA; have cK := blk_frozen aA.out 0; have cJ := blk_frozen aA.out 1; have p103 : 0 ≤ ((rd l1 bX) : Int) := of_decide_eq_true zz3; have q103 : (rd l1 bX) < (aC.length : Int) := of_decide_eq_true zz3; obtain ⟨bD, e103, aQ, a6⟩ := at_T57 bM.out (rd l1 bX) p103 q103; cases e103; replace aQ := (HB.out.cell (World.block_lt_of_cell? w _ aQ)).trans aQ; replace a6 := (HB.out.cell (World.block_lt_of_cell? w _ a6)).trans a6; replace p103 := eq_true p103; replace q103 := eq_true q103; (go_wp2_with (first | ((with_reducible refine gate_builtin (b := .append) (xs := #[.tmp 14, .tmp 20]) rfl ?_); at_builtin; refine Kd.R_append k57 (w0 := w) w.heap.size rfl (.tmp 14) (.tmp 20) 23 57 (.agg #[(.int .i64 0), (.int .i64 0)]) 16 rfl Try.underlying23 info57 rfl (by decide) (by omega) u5 aN (⟨(rd_T57 aC (rd l1 bX)).f0, (rd_T57 aC (rd l1 bX)).f1⟩ : S57) [.int .i64 ((rd_T57 aC (rd l1 bX)).f0), .int .i64 ((rd_T57 aC (rd l1 bX)).f1)] (fun _ => True) (fun _ => False) rfl rfl ?aP (fun _ hk => hk.elim) ?aF ?aO ?aB ?aS ?aL ?_; (case aP => exact k57_mkM _ _ _ (⟨(rd_T57 aC (rd l1 bX)).f0, (rd_T57 aC (rd l1 bX)).f1⟩ : S57)); (case aB => exact zz0); (case aF => exact (fun _ _ => trivial)); (case aO => exact zz23); (case aS => exact (below_size zz0)); (case aL => have := rK.out; omega); intro v105 w11 ho hb hg hat; rw [← jP.out] at ho; have n_ := zA3 (blk_grown (g := aE) (o := .cells #[.int .i64 aD, .slice (some bD) aC.length aG] 25 (0, 0)) zz2 hg (Kd.R_ne bY.out aA.out (by decide))) hb ho; clear aA HB bY; obtain ⟨aA, HB, gU⟩ := n_; clear ho hb hg hat))); go_roundg k1; (case measure => have := HK1.out; omega); case rel => exact ⟨(kI), (wrap64 (bX + 1)), zz5, H', ⟨zz34⟩, ⟨by (with_reducible repeat (first | apply Kd.R_alloc | apply Kd.R_drewN | apply Kd.R_drew)); exact gU.out⟩, ⟨zz2⟩, ⟨zz0⟩⟩
mutual
def impl_IsTree.j0 : Nat → List Int → Bool → Int → List (S57) → Option (Bool)
 | 0, _, _, _, _ => none
 | k + 1, x1, rW, aM, aJ => if rW = true then (some false) else (impl_IsTree.l0 k x1 1 aM aJ)
def impl_IsTree.l0 : Nat → List Int → Int → Int → List (S57) → Option (Bool)
 | 0, _, _, _, _ => none
 | k + 1, x1, x5, aM, aJ => if x5 < (x1.length : Int) then (if 0 ≤ (wrap64 (x5 - 1)) then (if (wrap64 (x5 - 1)) < (x1.length : Int) then (if 0 ≤ x5 then (if (rd x1 (wrap64 (x5 - 1))) ≥ (rd x1 x5) then (some false) else (impl_IsTree.l0 k x1 (wrap64 (x5 + 1)) aM aJ)) else (none)) else (none)) else (none)) else ((impl_edgesOf.f k aM aJ x1).bind fun dP => ((impl_connected.f k aM dP).bind fun lZ => (some lZ)))
end
def impl_IsTree.f (k : Nat) (aD : Int) (aC : List (S57)) (l1 : List Int) : Option (Bool) := (impl_GraphOk.f aD aC).bind fun bA => (if bA = true then (if (l1.length : Int) = (wrap64 (aD - 1)) then ((impl_allWithin.f k l1 0 (wrap64 ((aC.length : Int) - 1))).bind fun bL => (impl_IsTree.j0 k l1 (!bL) aD aC)) else (impl_IsTree.j0 k l1 true aD aC)) else (impl_IsTree.j0 k l1 true aD aC))
theorem impl_IsTree.mono_l : ∀ k, (∀ y0 y1 y2 y3, LeO (impl_IsTree.j0 k y0 y1 y2 y3) (impl_IsTree.j0 (k + 1) y0 y1 y2 y3)) ∧ (∀ y0 y1 y2 y3, LeO (impl_IsTree.l0 k y0 y1 y2 y3) (impl_IsTree.l0 (k + 1) y0 y1 y2 y3))
 | 0 => ⟨fun _ _ _ _ r h => by simp [impl_IsTree.j0] at h, fun _ _ _ _ r h => by simp [impl_IsTree.l0] at h⟩
 | k + 1 => by
  obtain ⟨ih0, ih1⟩ := impl_IsTree.mono_l k
  refine ⟨?_, ?_⟩
  ·intro y0 y1 y2 y3
   unfold impl_IsTree.j0
   exact zm6
  ·intro y0 y1 y2 y3
   unfold impl_IsTree.l0
   exact zm6
theorem impl_IsTree.mono : ∀ a0 a1 a2 k, LeO (impl_IsTree.f k a0 a1 a2) (impl_IsTree.f (k + 1) a0 a1 a2) := by
 intro a0 a1 a2 k; obtain ⟨ih0, ih1⟩ := impl_IsTree.mono_l k; unfold impl_IsTree.f; exact zm6
def impl_IsTree.T6 : Bool × List (List Nat × List Nat) := (true, [([], []), ([], []), ([1], [1]), ([0, 2], [0, 2]), ([3], [3]), ([], []), ([], []), ([5, 6], [5, 6]), ([7], [7]), ([4, 8], [4, 8])])
def impl_IsTree.B6 : List Nat := [0, 0, 2, 7, 15, 0, 0, 96, 224, 511]
theorem impl_IsTree.tab6 : rtab .any (opsOf Try.f15 6) = impl_IsTree.T6 := by kernel_rfl
theorem impl_IsTree.bits6 : waitsOk impl_IsTree.T6.2 impl_IsTree.B6 = true := by kernel_rfl
theorem impl_IsTree.calls (k : Nat) (aD : Int) (aH : Option Addr) (aG : Nat) (aC : List (S57)) (A1 : Option Addr) (c1 : Nat) (l1 : List Int) (r : Bool) (w : World) (hr0_1 : Kd.C k57 w aH aC.length aC) (hc0_1 : aC.length ≤ aG) (hr1 : Kd.C (Kd.int .i64) w A1 l1.length l1) (hc1 : l1.length ≤ c1) (h : impl_IsTree.f k aD aC l1 = some r) :
  Calls Try.prog 15 #[.agg #[.int .i64 aD, .slice aH aC.length aG], .slice A1 l1.length c1] w fun e w' => e = .returned (.bool r) ∧ Below w.heap.size w w' := by
 have hu25 := Try.underlying25; have bM := zK_ hr0_1; have bG := zK_ hc0_1; clear hr0_1 hc0_1; have HR1 := zK_ hr1; have HC1 := zK_ hc1; clear hr1 hc1; have HB := zK_ (Below.refl w.heap.size w); have H : ((impl_GraphOk.f aD aC).bind fun bA => (if bA = true then (if (l1.length : Int) = (wrap64 (aD - 1)) then ((impl_allWithin.f k l1 0 (wrap64 ((aC.length : Int) - 1))).bind fun bL => (impl_IsTree.j0 k l1 (!bL) aD aC)) else (impl_IsTree.j0 k l1 true aD aC)) else (impl_IsTree.j0 k l1 true aD aC))) = some r := h; clear h; have HC3 := zK_ H; clear H; go_enter Try.func15, Try.ntmps15; (go_upto_region 1 with (first | ((with_reducible refine gate_dst (N := 2) rfl ?_); (try (refine gate_guard (by rfl) ?_; dsimp only)); refine box_event ?hg (N := 2) ?hd (cs := #[.int .i64 aD, .slice aH aC.length aG]) (t := 25) ?hr ?_; (case hd => rfl); (case hg => rfl); (case hr => exact zz9); intro aE hg w4 hbox hb; have n_ := zA4 (below_step zz1 hb) hbox (zz10 : w.heap.size ≤ aE) (zz10 : w.heap.size ≤ aE); clear HB; obtain ⟨HB, aA, GW101, GE101⟩ := n_; clear hb hbox hg))); (try simp only [Act.put, List.setIfInBounds_toArray, List.set_cons_zero, List.set_cons_succ]); go_cut [25] (fun v25 wc => ∃ (kq : Nat) (m7 : Bool), v25 = .bool m7 ∧ Aside0 (impl_IsTree.j0 kq l1 m7 aD aC = some r) ∧ Aside0 (kq ≤ k) ∧ Aside0 (wc.heap[aE]? = some (.cells #[.int .i64 aD, (.slice aH aC.length aG)] 25 (0, 0))) ∧ Aside0 (Below w.heap.size w wc))
 case first =>
  have H := HC3.out; clear HC3; obtain ⟨bA, A50, H⟩ := zO_ H; (try dsimp only at H); have A5 := zK_ A50; clear A50; by_cases c6 : bA = true; rotate_left
  ·replace c6 := Bool.eq_false_iff.mpr c6; subst c6; rw [if_neg (show ¬ (false = true) by decide)] at H; have H' := zK_ H; clear H; have gK := zC20 aA; have gJ := zC21 aA; have gI := blk_frozen aA.out 0; have gH := blk_frozen aA.out 1; (go_wp2_with (first | ((with_reducible refine gate_callee (f := 50) rfl ?_); refine goesL_ (some 7) rfl rfl Try.func50 (by kernel_rfl) rfl #[.agg #[.int .i64 aD, .slice aH aC.length aG]] rfl zz4 ?_; (with_reducible refine (impl_GraphOk.calls aD _ _ aC false _ ?side1 ?side2 A5.out).mono ?_); (case side1 => exact zz6); (case side2 => exact bG.out); rintro e w16 ⟨rfl, hb⟩; refine ⟨_, rfl, ?_⟩; have n_ := zA2 (blk_below (g := aE) (o := .cells #[.int .i64 aD, .slice aH aC.length aG] 25 (0, 0)) zz2 hb) (below_step zz0 hb); clear aA HB; obtain ⟨aA, HB⟩ := n_; clear hb))); (go_meet); case rel => exact ⟨_, (true), zz5, H', ⟨by first | omega | exact Nat.le_refl _⟩, ⟨zz2⟩, ⟨zz0⟩⟩
  subst c6; rw [if_pos rfl] at H; by_cases c7 : (l1.length : Int) = (wrap64 (aD - 1)); rotate_left
  ·rw [if_neg c7] at H; have dL : ((l1.length : Int) == (wrap64 (aD - 1))) = false := beq_eq_false_iff_ne.mpr c7; have kR : ((l1.length : Int) != (wrap64 (aD - 1))) = true := bne_iff_ne.mpr c7; (first | rw [dL] | (simp only [i64_w, i32_w]; rw [dL]) | skip); have H' := zK_ H; clear H; have fV := zC20 aA; have fU := zC21 aA; have fT := blk_frozen aA.out 0; have fS := blk_frozen aA.out 1; (go_wp2_with (first | ((with_reducible refine gate_callee (f := 50) rfl ?_); refine goesL_ (some 7) rfl rfl Try.func50 (by kernel_rfl) rfl #[.agg #[.int .i64 aD, .slice aH aC.length aG]] rfl zz4 ?_; (with_reducible refine (impl_GraphOk.calls aD _ _ aC true _ ?side1 ?side2 A5.out).mono ?_); (case side1 => exact zz6); (case side2 => exact bG.out); rintro e w13 ⟨rfl, hb⟩; refine ⟨_, rfl, ?_⟩; have n_ := zA2 (blk_below (g := aE) (o := .cells #[.int .i64 aD, .slice aH aC.length aG] 25 (0, 0)) zz2 hb) (below_step zz0 hb); clear aA HB; obtain ⟨aA, HB⟩ := n_; clear hb; have eG := zC20 aA; have eF := zC21 aA; have dZ := blk_frozen aA.out 0; have dY := blk_frozen aA.out 1))); (go_meet); case rel => exact ⟨_, (true), zz5, H', ⟨by first | omega | exact Nat.le_refl _⟩, ⟨zz2⟩, ⟨zz0⟩⟩
  rw [if_pos c7] at H; have dL : ((l1.length : Int) == (wrap64 (aD - 1))) = true := beq_iff_eq.mpr c7; have kR : ((l1.length : Int) != (wrap64 (aD - 1))) = false := bne_eq_false_iff_eq.mpr c7; clear c7; (first | rw [dL] | (simp only [i64_w, i32_w]; rw [dL]) | skip); obtain ⟨bL, A80, H⟩ := zO_ H; (try dsimp only at H); have A8 := zK_ A80; clear A80; have H' := zK_ H; clear H; have d8 := zC20 aA; have d7 := zC21 aA; have dV := blk_frozen aA.out 0; have dU := blk_frozen aA.out 1; (go_wp2_with (first | ((with_reducible refine gate_callee (f := 50) rfl ?_); refine goesL_ (some 7) rfl rfl Try.func50 (by kernel_rfl) rfl #[.agg #[.int .i64 aD, .slice aH aC.length aG]] rfl zz4 ?_; (with_reducible refine (impl_GraphOk.calls aD _ _ aC true _ ?side1 ?side2 A5.out).mono ?_); (case side1 => exact zz6); (case side2 => exact bG.out); rintro e w10 ⟨rfl, hb⟩; refine ⟨_, rfl, ?_⟩; have n_ := zA2 (blk_below (g := aE) (o := .cells #[.int .i64 aD, .slice aH aC.length aG] 25 (0, 0)) zz2 hb) (below_step zz0 hb); clear aA HB; obtain ⟨aA, HB⟩ := n_; clear hb; have eZ := zC20 aA; have eY := zC21 aA; have eW := blk_frozen aA.out 0; have eV := blk_frozen aA.out 1) | (go_at_call 51; (with_reducible refine (impl_allWithin.calls k _ _ l1 0 (wrap64 ((aC.length : Int) - 1)) bL _ ?side1 ?side2 A8.out).mono ?_); (case side1 => repeat (first | exact (Kd.C_below HR1.out HB.out) | (with_reducible refine Kd.C_alloc ?_ _) | (with_reducible refine Kd.C_drewN ?_ _) | (with_reducible refine Kd.C_drew ?_))); (case side2 => exact HC1.out); rintro e w' ⟨rfl, ⟨nd, rfl⟩⟩))); (go_meet); case rel => exact ⟨_, (!bL), zz5, H', ⟨by first | omega | exact Nat.le_refl _⟩, ⟨zz2⟩, ⟨zz0⟩⟩
 case rest =>
  clear HC3; (try clear c1); (try clear p2); (try clear c5); (try clear c6); (try clear p6); (try clear c7); (try clear dL); (try clear kR); (try clear c15); (try clear eZ); (try clear eY); (try clear fV); (try clear fU); (try clear eG); (try clear eF); (try clear gK); (try clear gJ); (try clear d8); (try clear d7); (try clear eW); (try clear eV); (try clear fT); (try clear fS); (try clear dZ); (try clear dY); (try clear gI); (try clear gH); (try clear dV); (try clear dU); obtain ⟨kq, m7, rfl, HA, HJ2, aA, HB⟩ := hcut
  cases kq with
  | zero => exact absurd HA.out (by simp [impl_IsTree.j0])
  | succ kj2 =>
   have H := HA.out; clear HA; simp only [impl_IsTree.j0] at H; by_cases c17 : m7 = true
   ·subst c17; rw [if_pos rfl] at H; obtain rfl := Option.some.inj H; go_wp2; go_ret; exact ⟨zz7, zz0⟩
   replace c17 := Bool.eq_false_iff.mpr c17; subst c17; rw [if_neg (show ¬ (false = true) by decide)] at H; have H' := zK_ H; clear H; go_wp2; (go_loopg [5] kj2 (fun kq v5 w' => ∃ (bN : Int), v5 = .int .i64 bN ∧ Aside0 (impl_IsTree.l0 kq l1 bN aD aC = some r) ∧ Aside0 (kq ≤ kj2) ∧ Aside0 (w'.heap[aE]? = some (.cells #[.int .i64 aD, (.slice aH aC.length aG)] 25 (0, 0))) ∧ Aside0 (Below w.heap.size w w'))); case atStart => exact ⟨(1), zz5, H', ⟨Nat.le_refl _⟩, ⟨zz2⟩, ⟨zz0⟩⟩
   case round =>
    clear H'; (try clear c1); (try clear p2); (try clear c5); (try clear c6); (try clear p6); (try clear c7); (try clear dL); (try clear kR); (try clear c15); (try clear c17); (try clear eZ); (try clear eY); (try clear fV); (try clear fU); (try clear eG); (try clear eF); (try clear gK); (try clear gJ); (try clear d8); (try clear d7); (try clear eW); (try clear eV); (try clear fT); (try clear fS); (try clear dZ); (try clear dY); (try clear gI); (try clear gH); (try clear dV); (try clear dU); (try clear p2); (try clear p6); obtain ⟨bN, rfl, HA, HK2, aA, HB⟩ := hrel
    cases gk with
    | zero => exact absurd HA.out (by simp [impl_IsTree.l0])
    | succ k2 =>
     have H := HA.out; clear HA; simp only [impl_IsTree.l0] at H; by_cases c18 : bN < (l1.length : Int); rotate_left
     ·rw [if_neg c18] at H; have iD := decide_eq_false c18; clear c18; obtain ⟨dP, A260, H⟩ := zO_ H; (try dsimp only at H); have A26 := zK_ A260; clear A260; obtain ⟨lZ, A270, H⟩ := zO_ H; (try dsimp only at H); have A27 := zK_ A270; clear A270; obtain rfl := Option.some.inj H; (try go_wp2); have n_ := zA2 (blk_drew aA.out) (below_drew1 HB.out); clear aA HB; obtain ⟨aA, HB⟩ := n_; refine start_ (n := 7) (S := fun w' => w'.cell? ⟨aE, 0, none⟩ = some (.int .i64 aD) ∧ w'.cell? ⟨aE, 1, none⟩ = some (.slice aH aC.length aG)) (ds := []) (zM 7 0) (by kernel_rfl) rfl rfl ⟨(blk_cell aA.out 0).trans rfl, (blk_cell aA.out 1).trans rfl⟩ (fun hHeld => ?_); generalize wr.drew = w28 at aA HB hHeld ⊢; refine pure_ (i := 0) (N := some 42) (v := ?_) (a' := ?_) (zM 7 1) rfl rfl (by kernel_rfl) (fun _ _ _ h => h) (Or.inl ⟨by rfl, ?_⟩) ?_ ?_; rotate_left
      ·intro w'; exact zzT
      rotate_left
      ·exact zzS
      refine pure_ (i := 3) (N := some 45) (v := ?_) (a' := ?_) (zM 7 9) rfl rfl (by kernel_rfl) (fun _ _ _ h => h) (Or.inl ⟨by rfl, ?_⟩) ?_ ?_; rotate_left
      ·intro w'; exact zzT
      rotate_left
      ·exact zzS
      refine take_ (i := 1) (N := some 43) (v := ?_) (a' := ?_) (zM 7 11) rfl rfl (by kernel_rfl) (fun _ _ _ h => h) (Or.inl ⟨by rfl, ?_⟩) hHeld ?_ ?_; rotate_left
      ·rintro w' ⟨s0, s1⟩; exact zzT
      rotate_left
      ·exact zzS
      refine take_ (i := 2) (N := some 44) (v := ?_) (a' := ?_) (zM 7 15) rfl rfl (by kernel_rfl) (fun _ _ _ h => h) (Or.inl ⟨by rfl, ?_⟩) hHeld ?_ ?_; rotate_left
      ·rintro w' ⟨s0, s1⟩; exact zzT
      rotate_left
      ·exact zzS
      refine one_ (i := 4) (N := some 46) (zM 7 31) rfl rfl (by kernel_rfl) (by decide) (fun K hK => ?_); refine goes_ Try.func53 (by kernel_rfl) rfl #[.agg #[.int .i64 aD, .slice aH aC.length aG], .slice A1 l1.length c1] (by rfl) rfl rfl zz4 ?_; (with_reducible refine (impl_edgesOf.calls k2 aD _ _ aC _ _ l1 dP _ ?side1 ?side2 ?side3 ?side4 A26.out).mono ?_); (case side1 => exact zz6); (case side2 => exact bG.out); (case side3 => repeat (first | exact (Kd.C_below HR1.out HB.out) | (with_reducible refine Kd.C_alloc ?_ _) | (with_reducible refine Kd.C_drewN ?_ _) | (with_reducible refine Kd.C_drew ?_))); (case side4 => exact HC1.out); rintro e w29 ⟨v107, rfl, ho0, hb⟩; refine ⟨_, rfl, ?_⟩; have n_ := zA3 (Kd.R_lower ho0 (below_size zz0)) (blk_below (g := aE) (o := .cells #[.int .i64 aD, .slice aH aC.length aG] 25 (0, 0)) zz2 hb) (below_step zz0 hb); clear aA HB; obtain ⟨iX, aA, HB⟩ := n_; clear ho0 hb; obtain ⟨Ao30, co30, sL⟩ := Kd.R_slice iX.out; (first | subst sL | (injection sL with f1_ f2_ f3_; have f4_ := f1_.symm; have f5_ := f3_.symm; clear f1_ f2_ f3_; subst f4_; subst f5_)); refine hK.out _ _ ⟨(blk_cell aA.out 0).trans rfl, (blk_cell aA.out 1).trans rfl⟩ (fun hHeld => ?_); clear hK K; refine norm_ (a' := ?_) ?_ ?_; rotate_left
      ·show Act.put _ (some 46) _ = _; exact zzS
      refine one_ (i := 5) (N := some 47) (zM 7 63) rfl rfl (by kernel_rfl) (by decide) (fun K hK => ?_); refine goes_ Try.func52 (by kernel_rfl) rfl #[.int .i64 aD, .slice Ao30 dP.length co30] (by rfl) rfl rfl zz4 ?_; (with_reducible refine (impl_connected.calls k2 aD _ _ dP lZ _ ?side1 ?side2 A27.out).mono ?_); (case side1 => repeat (first | exact (Kd.R_reads' iX.out).2.2 | (with_reducible refine Kd.C_alloc ?_ _) | (with_reducible refine Kd.C_drewN ?_ _) | (with_reducible refine Kd.C_drew ?_))); (case side2 => exact (Kd.R_reads' iX.out).2.1); rintro e w31 ⟨rfl, hb⟩; refine ⟨_, rfl, ?_⟩; have n_ := zA3 (Kd.R_below (by (with_reducible repeat (first | apply Kd.R_alloc | apply Kd.R_drewN | apply Kd.R_drew)); exact iX.out) hb) (blk_below (g := aE) (o := .cells #[.int .i64 aD, .slice aH aC.length aG] 25 (0, 0)) zz2 hb) (below_step zz0 hb); clear iX aA HB; obtain ⟨iX, aA, HB⟩ := n_; clear hb; refine hK.out _ _ ⟨(blk_cell aA.out 0).trans rfl, (blk_cell aA.out 1).trans rfl⟩ (fun hHeld => ?_); clear hK K; refine norm_ (a' := ?_) ?_ ?_; rotate_left
      ·show Act.put _ (some 47) _ = _; exact zzS
      refine pure_ (i := 6) (N := some 4) (v := ?_) (a' := ?_) (zM 7 127) rfl rfl (by kernel_rfl) (fun _ _ _ h => h) (Or.inl ⟨by rfl, ?_⟩) ?_ ?_; rotate_left
      ·intro w'; exact zzT
      rotate_left
      ·exact zzS
      refine done_ (by kernel_rfl) ?_; (try go_wp2); go_ret; exact ⟨zz7, zz0⟩
     rw [if_pos c18] at H; have iD := decide_eq_true c18; clear c18; obtain ⟨fO, jW⟩ : ∃ j_ : Int, (wrap64 (bN - 1)) = j_ := ⟨_, rfl⟩; (replace H : (if 0 ≤ (fO) then (if (fO) < (l1.length : Int) then (if 0 ≤ bN then (if (rd l1 (fO)) ≥ (rd l1 bN) then (some false) else (impl_IsTree.l0 k2 l1 (wrap64 (bN + 1)) aD aC)) else (none)) else (none)) else (none)) = some r := by first | (rw [jW] at H; exact H) | (simp only [jW] at H ⊢; exact H)); have xC : (IntKind.i64.wrap (bN - 1)) = fO := (i64_w _).trans jW; by_cases c20 : 0 ≤ (fO); rotate_left
     ·rw [if_neg c20] at H; exact absurd H (by simp)
     rw [if_pos c20] at H; have kZ := decide_eq_true c20; clear c20; by_cases c21 : (fO) < (l1.length : Int); rotate_left
     ·rw [if_neg c21] at H; exact absurd H (by simp)
     rw [if_pos c21] at H; have iV := decide_eq_true c21; clear c21; by_cases c22 : 0 ≤ bN; rotate_left
     ·rw [if_neg c22] at H; exact absurd H (by simp)
     rw [if_pos c22] at H; have kY := decide_eq_true c22; clear c22; by_cases c23 : (rd l1 (fO)) ≥ (rd l1 bN)
     ·rw [if_pos c23] at H; have nX : decide ((rd l1 bN) ≤ (rd l1 (fO))) = true := decide_eq_true c23; clear c23; obtain rfl := Option.some.inj H; (try go_wp2); have n_ := zA2 (blk_drew aA.out) (below_drew1 HB.out); clear aA HB; obtain ⟨aA, HB⟩ := n_; have p104 : 0 ≤ ((fO) : Int) := of_decide_eq_true zz3; have q104 : (fO) < (l1.length : Int) := of_decide_eq_true zz3; obtain ⟨dE, e104, bE⟩ := Kd.at_int HR1.out (fO) p104 q104; have hw104_0 := bE; cases e104; replace bE := (HB.out.cell (World.block_lt_of_cell? w _ bE)).trans bE; replace p104 := eq_true p104; replace q104 := eq_true q104; have p105 : 0 ≤ (bN : Int) := of_decide_eq_true zz3; have q105 : bN < (l1.length : Int) := of_decide_eq_true zz3; obtain ⟨cH, e105, bF⟩ := Kd.at_int HR1.out bN p105 q105; have hw105_0 := bF; obtain rfl : dE = cH := (by injection e105); replace bF := (HB.out.cell (World.block_lt_of_cell? w _ bF)).trans bF; replace p105 := eq_true p105; replace q105 := eq_true q105; refine start_ (n := 10) (S := fun w' => w'.cell? (dE.add ((fO)).toNat) = some (.int .i64 (rd l1 (fO))) ∧ w'.cell? (dE.add (bN).toNat) = some (.int .i64 (rd l1 bN))) (ds := []) (zM 10 0) (by kernel_rfl) rfl rfl ⟨((HB.out.cell (World.block_lt_of_cell? w _ hw104_0)).trans hw104_0), ((HB.out.cell (World.block_lt_of_cell? w _ hw105_0)).trans hw105_0)⟩ (fun hHeld => ?_); refine with_tabW impl_IsTree.tab6 impl_IsTree.bits6 (fun HT_ HW_ => ?_); generalize wr.drew = w24 at aA HB bE bF hHeld ⊢; refine zQ 0 32 (zM 10 1) ?_
      refine zQ 1 33 (zM 10 3) ?_
      refine zQ 2 34 (zM 10 7) ?_
      refine zQ 3 35 (zM 10 15) ?_
      refine zQ 5 37 (zM 10 47) ?_
      refine zQ 6 38 (zM 10 111) ?_
      refine zQ 7 39 (zM 10 239) ?_
      refine take_ (i := 4) (N := some 36) (v := ?_) (a' := ?_) (zM 10 255) rfl rfl (take_ofW HT_.out HW_.out (by kernel_rfl)) (fun _ _ _ h => h) (Or.inl ⟨by rfl, ?_⟩) hHeld ?_ ?_; rotate_left
      ·rintro w' ⟨s0, s1⟩; exact zzT
      rotate_left
      ·exact zzS
      refine take_ (i := 8) (N := some 40) (v := ?_) (a' := ?_) (zM 10 511) rfl rfl (take_ofW HT_.out HW_.out (by kernel_rfl)) (fun _ _ _ h => h) (Or.inl ⟨by rfl, ?_⟩) hHeld ?_ ?_; rotate_left
      ·rintro w' ⟨s0, s1⟩; exact zzT
      rotate_left
      ·exact zzS
      refine zQ 9 41 (zM 10 1023) ?_
      refine done_ (done_of HT_.out (by kernel_rfl)) ?_; (try go_wp2); go_ret; exact ⟨by first | rfl | (simp [errW_none, errW_some] <;> rfl) | (simp only [← jW]; first | rfl | (simp [errW_none, errW_some] <;> rfl)) | (simp [*, errW_none, errW_some] <;> rfl), zz0⟩
     rw [if_neg c23] at H; have nX : decide ((rd l1 bN) ≤ (rd l1 (fO))) = false := decide_eq_false c23; clear c23; have H' := zK_ H; clear H; (try go_wp2); have n_ := zA2 (blk_drew aA.out) (below_drew1 HB.out); clear aA HB; obtain ⟨aA, HB⟩ := n_; have p104 : 0 ≤ ((fO) : Int) := of_decide_eq_true zz3; have q104 : (fO) < (l1.length : Int) := of_decide_eq_true zz3; obtain ⟨dE, e104, bE⟩ := Kd.at_int HR1.out (fO) p104 q104; have hw104_0 := bE; cases e104; replace bE := (HB.out.cell (World.block_lt_of_cell? w _ bE)).trans bE; replace p104 := eq_true p104; replace q104 := eq_true q104; have p105 : 0 ≤ (bN : Int) := of_decide_eq_true zz3; have q105 : bN < (l1.length : Int) := of_decide_eq_true zz3; obtain ⟨cH, e105, bF⟩ := Kd.at_int HR1.out bN p105 q105; have hw105_0 := bF; obtain rfl : dE = cH := (by injection e105); replace bF := (HB.out.cell (World.block_lt_of_cell? w _ bF)).trans bF; replace p105 := eq_true p105; replace q105 := eq_true q105; refine start_ (n := 10) (S := fun w' => w'.cell? (dE.add ((fO)).toNat) = some (.int .i64 (rd l1 (fO))) ∧ w'.cell? (dE.add (bN).toNat) = some (.int .i64 (rd l1 bN))) (ds := []) (zM 10 0) (by kernel_rfl) rfl rfl ⟨((HB.out.cell (World.block_lt_of_cell? w _ hw104_0)).trans hw104_0), ((HB.out.cell (World.block_lt_of_cell? w _ hw105_0)).trans hw105_0)⟩ (fun hHeld => ?_); refine with_tabW impl_IsTree.tab6 impl_IsTree.bits6 (fun HT_ HW_ => ?_); generalize wr.drew = w25 at aA HB bE bF hHeld ⊢; refine zQ 0 32 (zM 10 1) ?_
     refine zQ 1 33 (zM 10 3) ?_
     refine zQ 2 34 (zM 10 7) ?_
     refine zQ 3 35 (zM 10 15) ?_
     refine zQ 5 37 (zM 10 47) ?_
     refine zQ 6 38 (zM 10 111) ?_
     refine zQ 7 39 (zM 10 239) ?_
     refine take_ (i := 4) (N := some 36) (v := ?_) (a' := ?_) (zM 10 255) rfl rfl (take_ofW HT_.out HW_.out (by kernel_rfl)) (fun _ _ _ h => h) (Or.inl ⟨by rfl, ?_⟩) hHeld ?_ ?_; rotate_left
     ·rintro w' ⟨s0, s1⟩; exact zzT
     rotate_left
     ·exact zzS
     refine take_ (i := 8) (N := some 40) (v := ?_) (a' := ?_) (zM 10 511) rfl rfl (take_ofW HT_.out HW_.out (by kernel_rfl)) (fun _ _ _ h => h) (Or.inl ⟨by rfl, ?_⟩) hHeld ?_ ?_; rotate_left
     ·rintro w' ⟨s0, s1⟩; exact zzT
     rotate_left
     ·exact zzS
     refine zQ 9 41 (zM 10 1023) ?_
     refine done_ (done_of HT_.out (by kernel_rfl)) ?_; (try go_wp2); go_roundg k2; (case measure => have := HJ2.out; have := HK2.out; omega); case rel => exact ⟨(wrap64 (bN + 1)), zz5, H', ⟨by have := HJ2.out; have := HK2.out; omega⟩, ⟨zz2⟩, ⟨zz0⟩⟩
end Go.Proofs.Ytnbljcgdgblgoaa.P
end

section
namespace Go.Proofs.Ytnbljcgdgblgoaa.P
open Go.RowKit Go.Proofs.YtnbljcgdgblgoaaW.PrintWords Go.Proofs.YtnbljcgdgblgoaaW.PrintLast Go.Proofs.YtnbljcgdgblgoaaW.PrintMore
attribute [local go_sem] max2_int min2_int max_two min_two max_three min_three max_four min_four
set_option linter.unusedVariables false
set_option linter.unusedSimpArgs false
def spec_l12Joins.l0 : Nat → List Int → Int → Int → Int → List (S57) → Int → List (S57) → Option (Bool)
 | 0, _, _, _, _, _, _, _ => none
 | k + 1, eH, jV, iZ, aM, aJ, nB, k9 => if iZ < jV then (if 0 ≤ iZ then (if iZ < (eH.length : Int) then (if 0 ≤ (rd eH iZ) then (if (rd eH iZ) < (aJ.length : Int) then (if k9.length < 8796093022208 then (spec_l12Joins.l0 k eH jV (wrap64 (iZ + 1)) aM aJ nB (k9 ++ [(⟨(rd_T57 aJ (rd eH iZ)).f0, (rd_T57 aJ (rd eH iZ)).f1⟩ : S57)])) else (none)) else (none)) else (none)) else (none)) else (none)) else ((spec_l02Reach.f k nB k9).bind fun fN => (some ((fN.length : Int) == aM)))
def spec_l12Joins.f (k : Nat) (aD : Int) (aC : List (S57)) (l1 : List Int) : Option (Bool) := spec_l12Joins.l0 k l1 (l1.length : Int) 0 aD aC aD ([] : List (S57))
theorem spec_l12Joins.mono_l : ∀ k, (∀ y0 y1 y2 y3 y4 y5 y6, LeO (spec_l12Joins.l0 k y0 y1 y2 y3 y4 y5 y6) (spec_l12Joins.l0 (k + 1) y0 y1 y2 y3 y4 y5 y6))
 | 0 => fun _ _ _ _ _ _ _ r h => by simp [spec_l12Joins.l0] at h
 | k + 1 => by
  have ih0 := spec_l12Joins.mono_l k
  ·intro y0 y1 y2 y3 y4 y5 y6
   unfold spec_l12Joins.l0
   exact zm13
theorem spec_l12Joins.mono : ∀ a0 a1 a2 k, LeO (spec_l12Joins.f k a0 a1 a2) (spec_l12Joins.f (k + 1) a0 a1 a2) := by
 intro a0 a1 a2 k; have ih0 := spec_l12Joins.mono_l k; unfold spec_l12Joins.f; exact zm13
def spec_l12Joins.T5 : Bool × List (List Nat × List Nat) := (true, [([], []), ([0], [0]), ([], []), ([2], [2]), ([], []), ([3, 4], [3, 4]), ([5], [5]), ([6], [6]), ([1, 7], [1, 7]), ([0, 1, 2, 3, 4, 5, 6, 7, 8], []), ([9, 8, 8, 0, 1, 2, 3, 4, 5, 6, 7, 8], [8, 9])])
def spec_l12Joins.B5 : List Nat := [0, 1, 0, 4, 0, 28, 60, 124, 255, 511, 1023]
theorem spec_l12Joins.tab5 : rtab .any (opsOf Try.f79 5) = spec_l12Joins.T5 := by kernel_rfl
theorem spec_l12Joins.bits5 : waitsOk spec_l12Joins.T5.2 spec_l12Joins.B5 = true := by kernel_rfl
theorem spec_l12Joins.calls (k : Nat) (aD : Int) (aH : Option Addr) (aG : Nat) (aC : List (S57)) (A1 : Option Addr) (c1 : Nat) (l1 : List Int) (r : Bool) (w : World) (hr0_1 : Kd.C k57 w aH aC.length aC) (hc0_1 : aC.length ≤ aG) (hr1 : Kd.C (Kd.int .i64) w A1 l1.length l1) (hc1 : l1.length ≤ c1) (h : spec_l12Joins.f k aD aC l1 = some r) :
  Calls Try.prog 79 #[.agg #[.int .i64 aD, .slice aH aC.length aG], .slice A1 l1.length c1] w fun e w' => e = .returned (.bool r) ∧ Below w.heap.size w w' := by
 have hu25 := Try.underlying25; have hu57 := Try.underlying57; have bM := zK_ hr0_1; have bG := zK_ hc0_1; clear hr0_1 hc0_1; have HR1 := zK_ hr1; have HC1 := zK_ hc1; clear hr1 hc1; have HB := zK_ (Below.refl w.heap.size w); have H : (spec_l12Joins.l0 k l1 (l1.length : Int) 0 aD aC aD ([] : List (S57))) = some r := h; clear h; have H' := zK_ H; clear H; go_enter Try.func79, Try.ntmps79; (go_wp2_with (first | ((with_reducible refine gate_dst (N := 2) rfl ?_); refine box_event ?hg (N := 2) ?hd (cs := #[.int .i64 aD, .slice aH aC.length aG]) (t := 25) ?hr ?_; (case hd => rfl); (case hg => rfl); (case hr => exact zz9); intro aE hg w3 hbox hb; have n_ := zA4 (below_step zz1 hb) hbox (zz10 : w.heap.size ≤ aE) (zz10 : w.heap.size ≤ aE); clear HB; obtain ⟨HB, aA, GW101, GE101⟩ := n_; clear hb hbox hg; have m4 := zC20 aA; have m3 := zC21 aA; have mZ := blk_frozen aA.out 0; have mY := blk_frozen aA.out 1) | ((with_reducible refine gate_dst (N := 5) rfl ?_); refine box_event ?hg (N := 5) ?hd (cs := #[.int .i64 0, .slice none 0 0]) (t := 25) ?hr ?_; (case hd => rfl); (case hg => rfl); (case hr => exact zz9); intro aZ hg w5 hbox hb; have n_ := zA7 (blk_below (g := aE) (o := .cells #[.int .i64 aD, .slice aH aC.length aG] 25 (0, 0)) zz2 hb) (below_step zz0 hb) hbox (zz13 : w.heap.size ≤ aZ) (zz13 : w.heap.size ≤ aZ) (zz56 : aE ≠ aZ) (zz57 : aZ ≠ aE); clear aA HB; obtain ⟨aA, HB, aT, GW102, GE102, bQ, bV⟩ := n_; clear hb hbox hg; have qA := bV.out; have rZ := bQ.out; have eE := zC20 aT; have d9 := zC21 aT; have dX := blk_frozen aT.out 0; have dW := blk_frozen aT.out 1))); (go_loopg [13] k (fun kq v13 w' => ∃ (dH : Int) (eJ : List (S57)) (u103001 : Value), v13 = .int .i64 dH ∧ Aside0 (spec_l12Joins.l0 kq l1 (l1.length : Int) dH aD aC aD eJ = some r) ∧ Aside0 (kq ≤ k) ∧ Aside0 (Kd.R k57 57 w' w.heap.size (fun _ => True) u103001 eJ) ∧ Aside0 (w'.heap[aE]? = some (.cells #[.int .i64 aD, (.slice aH aC.length aG)] 25 (0, 0))) ∧ Aside0 (w'.heap[aZ]? = some (.cells #[.int .i64 aD, u103001] 25 (0, 0))) ∧ Aside0 (Below w.heap.size w w'))); case atStart => exact ⟨(0), (([] : List (S57))), (.slice none 0 0), zz5, H', ⟨Nat.le_refl _⟩, ⟨zz42⟩, ⟨by (with_reducible repeat (first | refine blk_drewN ?_ _ | refine blk_drew ?_ | refine blk_alloc ?_ _)); refine blk_far ?_ bQ.out _; (with_reducible repeat (first | refine blk_drewN ?_ _ | refine blk_drew ?_ | refine blk_alloc ?_ _)); refine blk_far ?_ bQ.out _; (with_reducible repeat (first | refine blk_drewN ?_ _ | refine blk_drew ?_ | refine blk_alloc ?_ _)); exact aA.out⟩, ⟨by (with_reducible repeat (first | refine blk_drewN ?_ _ | refine blk_drew ?_ | refine blk_alloc ?_ _)); refine blk_put (cs := #[.int .i64 aD, .slice none 0 0]) ?_ 1 _ rfl; (with_reducible repeat (first | refine blk_drewN ?_ _ | refine blk_drew ?_ | refine blk_alloc ?_ _)); refine blk_put (cs := #[.int .i64 0, .slice none 0 0]) ?_ 0 _ rfl; (with_reducible repeat (first | refine blk_drewN ?_ _ | refine blk_drew ?_ | refine blk_alloc ?_ _)); exact aT.out⟩, ⟨zz14⟩⟩
 case round =>
  clear H'; (try clear c1); (try clear p2); (try clear c6); (try clear c7); (try clear m4); (try clear m3); (try clear eE); (try clear d9); (try clear mZ); (try clear mY); (try clear dX); (try clear dW); obtain ⟨dH, eJ, u103001, rfl, HA, HK1, cC, aA, aT, HB⟩ := hrel
  cases gk with
  | zero => exact absurd HA.out (by simp [spec_l12Joins.l0])
  | succ k1 =>
   have H := HA.out; clear HA; simp only [spec_l12Joins.l0] at H; by_cases c8 : dH < (l1.length : Int); rotate_left
   ·rw [if_neg c8] at H; have fL := decide_eq_false c8; clear c8; obtain ⟨fN, A180, H⟩ := zO_ H; (try dsimp only at H); have A18 := zK_ A180; clear A180; obtain rfl := Option.some.inj H; (try go_wp2); have n_ := zA4 (Kd.R_drew cC.out) (blk_drew aA.out) (blk_drew aT.out) (below_drew1 HB.out); clear cC aA aT HB; obtain ⟨cC, aA, aT, HB⟩ := n_; obtain ⟨Ao20, co20, sO⟩ := Kd.R_slice cC.out; (first | subst sO | (injection sO with f1_ f2_ f3_; have f4_ := f1_.symm; have f5_ := f3_.symm; clear f1_ f2_ f3_; subst f4_; subst f5_)); refine start_ (n := 7) (S := fun w' => w'.cell? ⟨aZ, 0, none⟩ = some (.int .i64 aD) ∧ w'.cell? ⟨aZ, 1, none⟩ = some (.slice Ao20 eJ.length co20) ∧ w'.cell? ⟨aE, 0, none⟩ = some (.int .i64 aD) ∧ w'.cell? ⟨aE, 1, none⟩ = some (.slice aH aC.length aG)) (ds := []) (zM 7 0) (by kernel_rfl) rfl rfl ⟨(blk_cell aT.out 0).trans rfl, (blk_cell aT.out 1).trans rfl, (blk_cell aA.out 0).trans rfl, (blk_cell aA.out 1).trans rfl⟩ (fun hHeld => ?_); generalize wr.drew = w19 at cC aA aT HB hHeld ⊢; refine pure_ (i := 3) (N := some 31) (v := ?_) (a' := ?_) (zM 7 8) rfl rfl (by kernel_rfl) (fun _ _ _ h => h) (Or.inl ⟨by rfl, ?_⟩) ?_ ?_; rotate_left
    ·intro w'; exact zzT
    rotate_left
    ·exact zzS
    refine take_ (i := 0) (N := some 28) (v := ?_) (a' := ?_) (zM 7 9) rfl rfl (by kernel_rfl) (fun _ _ _ h => h) (Or.inl ⟨by rfl, ?_⟩) hHeld ?_ ?_; rotate_left
    ·rintro w' ⟨s0, s1, s2, s3⟩; exact zzT
    rotate_left
    ·exact zzS
    refine take_ (i := 4) (N := some 32) (v := ?_) (a' := ?_) (zM 7 25) rfl rfl (by kernel_rfl) (fun _ _ _ h => h) (Or.inl ⟨by rfl, ?_⟩) hHeld ?_ ?_; rotate_left
    ·rintro w' ⟨s0, s1, s2, s3⟩; exact zzT
    rotate_left
    ·exact zzS
    refine one_ (i := 1) (N := some 29) (zM 7 27) rfl rfl (by kernel_rfl) (by decide) (fun K hK => ?_); refine goes_ Try.func94 (by kernel_rfl) rfl #[.agg #[.int .i64 aD, .slice Ao20 eJ.length co20]] (by rfl) rfl rfl zz4 ?_; (with_reducible refine (spec_l02Reach.calls k1 aD _ _ eJ fN _ ?side1 ?side2 A18.out).mono ?_); (case side1 => repeat (first | exact (Kd.R_reads' cC.out).2.2 | (with_reducible refine Kd.C_alloc ?_ _) | (with_reducible refine Kd.C_drewN ?_ _) | (with_reducible refine Kd.C_drew ?_))); (case side2 => exact (Kd.R_reads' cC.out).2.1); rintro e w21 ⟨v109, rfl, ho0, hb⟩; refine ⟨_, rfl, ?_⟩; have n_ := zA5 (Kd.R_below (by (with_reducible repeat (first | apply Kd.R_alloc | apply Kd.R_drewN | apply Kd.R_drew)); exact cC.out) hb) (Kd.R_lower ho0 (below_size zz14)) (blk_below (g := aE) (o := .cells #[.int .i64 aD, .slice aH aC.length aG] 25 (0, 0)) zz2 hb) (blk_below (g := aZ) (o := .cells #[.int .i64 aD, .slice Ao20 eJ.length co20] 25 (0, 0)) zz24 hb) (below_step zz14 hb); clear cC aA aT HB; obtain ⟨cC, pU, aA, aT, HB⟩ := n_; clear ho0 hb; obtain ⟨Ao22, co22, sN⟩ := Kd.R_slice pU.out; (first | subst sN | (injection sN with f1_ f2_ f3_; have f4_ := f1_.symm; have f5_ := f3_.symm; clear f1_ f2_ f3_; subst f4_; subst f5_)); refine hK.out _ _ ⟨(blk_cell aT.out 0).trans rfl, (blk_cell aT.out 1).trans rfl, (blk_cell aA.out 0).trans rfl, (blk_cell aA.out 1).trans rfl⟩ (fun hHeld => ?_); clear hK K; refine norm_ (a' := ?_) ?_ ?_; rotate_left
    ·show Act.put _ (some 29) _ = _; exact zzS
    refine pure_ (i := 2) (N := some 30) (v := ?_) (a' := ?_) (zM 7 31) rfl rfl (by kernel_rfl) (fun _ _ _ h => h) (Or.inl ⟨by rfl, ?_⟩) ?_ ?_; rotate_left
    ·intro w'; exact zzT
    rotate_left
    ·exact zzS
    refine pure_ (i := 5) (N := some 33) (v := ?_) (a' := ?_) (zM 7 63) rfl rfl (by kernel_rfl) (fun _ _ _ h => h) (Or.inl ⟨by rfl, ?_⟩) ?_ ?_; rotate_left
    ·intro w'; exact zzT
    rotate_left
    ·exact zzS
    refine pure_ (i := 6) (N := some 4) (v := ?_) (a' := ?_) (zM 7 127) rfl rfl (by kernel_rfl) (fun _ _ _ h => h) (Or.inl ⟨by rfl, ?_⟩) ?_ ?_; rotate_left
    ·intro w'; exact zzT
    rotate_left
    ·exact zzS
    refine done_ (by kernel_rfl) ?_; (try go_wp2); go_ret; exact ⟨zz7, zz14⟩
   rw [if_pos c8] at H; have fL := decide_eq_true c8; clear c8; by_cases c9 : 0 ≤ dH; rotate_left
   ·rw [if_neg c9] at H; exact absurd H (by simp)
   rw [if_pos c9] at H; have fJ := decide_eq_true c9; clear c9; by_cases c10 : dH < (l1.length : Int); rotate_left
   ·rw [if_neg c10] at H; exact absurd H (by simp)
   rw [if_pos c10] at H; have gN := decide_eq_true c10; clear c10; by_cases c11 : 0 ≤ (rd l1 dH); rotate_left
   ·rw [if_neg c11] at H; exact absurd H (by simp)
   rw [if_pos c11] at H; have jY := decide_eq_true c11; clear c11; by_cases c12 : (rd l1 dH) < (aC.length : Int); rotate_left
   ·rw [if_neg c12] at H; exact absurd H (by simp)
   rw [if_pos c12] at H; have jX := decide_eq_true c12; clear c12; by_cases c13 : eJ.length < 8796093022208; rotate_left
   ·rw [if_neg c13] at H; exact absurd H (by simp)
   rw [if_pos c13] at H; have tS := zK_ c13; clear c13; obtain ⟨eI, hy_⟩ : ∃ y_ : List (S57), y_ = (eJ ++ [(⟨(rd_T57 aC (rd l1 dH)).f0, (rd_T57 aC (rd l1 dH)).f1⟩ : S57)]) := ⟨_, rfl⟩; (replace H : (spec_l12Joins.l0 k1 l1 (l1.length : Int) (wrap64 (dH + 1)) aD aC aD eI) = some r := zzY); have iJ := zK_ hy_; clear hy_; have H' := zK_ H; clear H; have p103 : 0 ≤ (dH : Int) := of_decide_eq_true zz3; have q103 : dH < (l1.length : Int) := of_decide_eq_true zz3; obtain ⟨bD, e103, aQ⟩ := Kd.at_int HR1.out dH p103 q103; cases e103; replace aQ := (HB.out.cell (World.block_lt_of_cell? w _ aQ)).trans aQ; replace p103 := eq_true p103; replace q103 := eq_true q103; (try go_wp2); have n_ := zA4 (Kd.R_drew cC.out) (blk_drew aA.out) (blk_drew aT.out) (below_drew1 HB.out); clear cC aA aT HB; obtain ⟨cC, aA, aT, HB⟩ := n_; have p104 : 0 ≤ ((rd l1 dH) : Int) := of_decide_eq_true zz3; have q104 : (rd l1 dH) < (aC.length : Int) := of_decide_eq_true zz3; obtain ⟨dE, e104, bE, cV⟩ := at_T57 bM.out (rd l1 dH) p104 q104; have hw104_1 := cV; have hw104_0 := bE; cases e104; replace bE := (HB.out.cell (World.block_lt_of_cell? w _ bE)).trans bE; replace cV := (HB.out.cell (World.block_lt_of_cell? w _ cV)).trans cV; replace p104 := eq_true p104; replace q104 := eq_true q104; refine start_ (n := 11) (S := fun w' => w'.cell? ⟨aZ, 0, none⟩ = some (.int .i64 aD) ∧ w'.cell? ⟨aZ, 1, none⟩ = some (u103001) ∧ w'.cell? ⟨aE, 0, none⟩ = some (.int .i64 aD) ∧ w'.cell? ⟨aE, 1, none⟩ = some (.slice (some dE) aC.length aG) ∧ w'.cell? (dE.add (((rd l1 dH)).toNat * 2)) = some (.int .i64 ((rd_T57 aC (rd l1 dH)).f0)) ∧ w'.cell? ⟨(dE.add (((rd l1 dH)).toNat * 2)).block, (dE.add (((rd l1 dH)).toNat * 2)).off + 1, none⟩ = some (.int .i64 ((rd_T57 aC (rd l1 dH)).f1))) (ds := [10]) (zM 11 0) (by kernel_rfl) rfl rfl ⟨(blk_cell aT.out 0).trans rfl, (blk_cell aT.out 1).trans rfl, (blk_cell aA.out 0).trans rfl, (blk_cell aA.out 1).trans rfl, ((HB.out.cell (World.block_lt_of_cell? w _ hw104_0)).trans hw104_0), ((HB.out.cell (World.block_lt_of_cell? w _ hw104_1)).trans hw104_1)⟩ (fun hHeld => ?_); refine with_tabW spec_l12Joins.tab5 spec_l12Joins.bits5 (fun HT_ HW_ => ?_); generalize wr.drew = w14 at cC aA aT HB bE cV hHeld ⊢; refine zQ 0 17 (zM 11 1) ?_
   refine zQ 2 19 (zM 11 5) ?_
   refine zQ 4 21 (zM 11 21) ?_
   refine take_ (i := 1) (N := some 18) (v := ?_) (a' := ?_) (zM 11 23) rfl rfl (take_ofW HT_.out HW_.out (by kernel_rfl)) (fun _ _ _ h => h) (Or.inl ⟨by rfl, ?_⟩) hHeld ?_ ?_; rotate_left
   ·rintro w' ⟨s0, s1, s2, s3, s4, s5⟩; exact zzT
   rotate_left
   ·exact zzS
   refine take_ (i := 3) (N := some 20) (v := ?_) (a' := ?_) (zM 11 31) rfl rfl (take_ofW HT_.out HW_.out (by kernel_rfl)) (fun _ _ _ h => h) (Or.inl ⟨by rfl, ?_⟩) hHeld ?_ ?_; rotate_left
   ·rintro w' ⟨s0, s1, s2, s3, s4, s5⟩; exact zzT
   rotate_left
   ·exact zzS
   refine zQ 5 22 (zM 11 63) ?_
   refine take_ (i := 6) (N := some 23) (v := ?_) (a' := ?_) (zM 11 127) rfl rfl (take_ofW HT_.out HW_.out (by kernel_rfl)) (fun _ _ _ h => h) (Or.inl ⟨by rfl, ?_⟩) hHeld ?_ ?_; rotate_left
   ·rintro w' ⟨s0, s1, s2, s3, s4, s5⟩; exact zzT
   rotate_left
   ·exact zzS
   refine one_ (i := 7) (N := some 24) (zM 11 255) rfl rfl (one_of HT_.out (by kernel_rfl)) (by decide) (fun K hK => ?_); refine value_ (w1 := ?_) (v := ?_) (by rfl) rfl ?_ ?_; rotate_left 2
   ·go_simp; constructor
    ·rfl
    ·rfl
   refine hK.out _ _ ⟨(blk_cell (blk_alloc aT.out _) 0).trans rfl, (blk_cell (blk_alloc aT.out _) 1).trans rfl, (blk_cell (blk_alloc aA.out _) 0).trans rfl, (blk_cell (blk_alloc aA.out _) 1).trans rfl, (World.cell?_alloc_lt _ _ _ (World.block_lt_of_cell? _ _ (((HB.out.cell (World.block_lt_of_cell? w _ hw104_0)).trans hw104_0)))).trans (((HB.out.cell (World.block_lt_of_cell? w _ hw104_0)).trans hw104_0)), (World.cell?_alloc_lt _ _ _ (World.block_lt_of_cell? _ _ (((HB.out.cell (World.block_lt_of_cell? w _ hw104_1)).trans hw104_1)))).trans (((HB.out.cell (World.block_lt_of_cell? w _ hw104_1)).trans hw104_1))⟩ (fun hHeld => ?_); clear hK K; refine norm_ (a' := ?_) ?_ ?_; rotate_left
   ·show Act.put _ (some 24) _ = _; exact zzS
   refine one_ (i := 8) (N := some 25) (zM 11 511) rfl rfl (one_of HT_.out (by kernel_rfl)) (by decide) (fun K hK => ?_); refine Kd.R_append_step k57 (w0 := w) w.heap.size (by rfl) (.tmp 18) (.tmp 24) 23 57 (.agg #[(.int .i64 0), (.int .i64 0)]) 16 rfl Try.underlying23 info57 rfl (by decide) (by omega) u103001 eJ (⟨(rd_T57 aC (rd l1 dH)).f0, (rd_T57 aC (rd l1 dH)).f1⟩ : S57) [.int .i64 ((rd_T57 aC (rd l1 dH)).f0), .int .i64 ((rd_T57 aC (rd l1 dH)).f1)] (fun _ => True) (fun _ => False) rfl rfl ?aP (fun _ hk => hk.elim) ?aF ?aO ?aB ?aS ?aL ?_; (case aP => exact k57_mkM _ _ _ (⟨(rd_T57 aC (rd l1 dH)).f0, (rd_T57 aC (rd l1 dH)).f1⟩ : S57)); (case aB => exact zz14); (case aF => exact (fun _ _ => trivial)); (case aO => exact (by (with_reducible repeat (first | apply Kd.R_alloc | apply Kd.R_drewN | apply Kd.R_drew)); exact cC.out)); (case aS => exact (below_size zz14)); (case aL => have := tS.out; omega); intro v106 w15 ho hb hg hat; rw [← iJ.out] at ho; have n_ := zA4 (blk_grown (g := aE) (o := .cells #[.int .i64 aD, .slice (some dE) aC.length aG] 25 (0, 0)) zz2 hg (Kd.R_ne cC.out aA.out (by decide))) (blk_grown (g := aZ) (o := .cells #[.int .i64 aD, u103001] 25 (0, 0)) zz24 hg (Kd.R_ne cC.out aT.out (by decide))) hb ho; clear aA aT HB cC; obtain ⟨aA, aT, HB, eM⟩ := n_; clear ho hb hg hat; obtain ⟨Ao16, co16, sQ⟩ := Kd.R_slice eM.out; (first | subst sQ | (injection sQ with f1_ f2_ f3_; have f4_ := f1_.symm; have f5_ := f3_.symm; clear f1_ f2_ f3_; subst f4_; subst f5_)); refine hK.out _ _ ⟨(blk_cell aT.out 0).trans rfl, (blk_cell aT.out 1).trans rfl, (blk_cell aA.out 0).trans rfl, (blk_cell aA.out 1).trans rfl, ((HB.out.cell (World.block_lt_of_cell? w _ hw104_0)).trans hw104_0), ((HB.out.cell (World.block_lt_of_cell? w _ hw104_1)).trans hw104_1)⟩ (fun hHeld => ?_); clear hK K; refine norm_ (a' := ?_) ?_ ?_; rotate_left
   ·show Act.put _ (some 25) _ = _; exact zzS
   refine zQ 9 26 (zM 11 1023) ?_
   refine last_ (i := 10) (N := none) (zM 11 2047) rfl rfl (one_of HT_.out (by kernel_rfl)) (by decide) (fun K hK => ?_); have hs17 : w15.cell? ⟨aZ, 1, none⟩ = some (u103001) := (blk_cell aT.out 1).trans rfl; have hfs17 := blk_frozen aT.out 1; have hns17_0 := bQ.out; have hms17_0 := bV.out; refine skip_ (w1 := ?_) (by rfl) rfl ?_ ?_; rotate_left
   ·go_simp; rfl
   refine hK.out _ _ ?_; clear hK K; refine done_ (done_of HT_.out (by kernel_rfl)) ?_; (try go_wp2); go_roundg k1; (case measure => have := HK1.out; omega); case rel => exact ⟨(wrap64 (dH + 1)), (eI), (.slice Ao16 eI.length co16), zz5, H', ⟨zz34⟩, ⟨by (with_reducible repeat (first | apply Kd.R_alloc | apply Kd.R_drewN | apply Kd.R_drew)); exact Kd.R_mono (Kd.R_far (p := ⟨aZ, 1, none⟩) (Kd.R_types eM.out aT.out (by decide)) (fun _ hk => hk.2) (.slice Ao16 eI.length co16)) (fun _ hk => trivial)⟩, ⟨by (with_reducible repeat (first | refine blk_drewN ?_ _ | refine blk_drew ?_ | refine blk_alloc ?_ _)); refine blk_far ?_ bQ.out _; (with_reducible repeat (first | refine blk_drewN ?_ _ | refine blk_drew ?_ | refine blk_alloc ?_ _)); exact aA.out⟩, ⟨by (with_reducible repeat (first | refine blk_drewN ?_ _ | refine blk_drew ?_ | refine blk_alloc ?_ _)); refine blk_put (cs := #[.int .i64 aD, u103001]) ?_ 1 _ rfl; (with_reducible repeat (first | refine blk_drewN ?_ _ | refine blk_drew ?_ | refine blk_alloc ?_ _)); exact aT.out⟩, ⟨zz14⟩⟩
mutual
def spec_TreesOf.j0 : Nat → Bool → Int → List (S57) → Option ((List (List Int)) × Bool)
 | 0, _, _, _ => none
 | k + 1, pX, aM, aJ => if pX = true then (some (([] : List (List Int)), false)) else ((spec_l03Sets.f (aJ.length : Int) (wrap64 (aM - 1))).bind fun eR => (spec_TreesOf.l0 k (([] : List (List Int))) eR (eR.length : Int) 0 aM aJ))
def spec_TreesOf.l0 : Nat → List (List Int) → List (List Int) → Int → Int → Int → List (S57) → Option ((List (List Int)) × Bool)
 | 0, _, _, _, _, _, _ => none
 | k + 1, x4, pW, pZ, pY, aM, aJ => if pY < pZ then (if 0 ≤ pY then (if pY < (pW.length : Int) then ((spec_l12Joins.f k aM aJ (rd_L3 pW pY)).bind fun rA => (if rA = true then (if x4.length < 5864062014805 then (spec_TreesOf.l0 k (x4 ++ [rd_L3 pW pY]) pW pZ (wrap64 (pY + 1)) aM aJ) else (none)) else (spec_TreesOf.l0 k x4 pW pZ (wrap64 (pY + 1)) aM aJ))) else (none)) else (none)) else (some (x4, true))
end
def spec_TreesOf.f (k : Nat) (aD : Int) (aC : List (S57)) : Option ((List (List Int)) × Bool) := (spec_GraphOk.f k aD aC).bind fun bA => (if bA = true then ((spec_CountTrees.f k aD aC).bind fun bL => (spec_TreesOf.j0 k (decide (bL > 400)) aD aC)) else (spec_TreesOf.j0 k true aD aC))
theorem spec_TreesOf.mono_l : ∀ k, (∀ y0 y1 y2, LeO (spec_TreesOf.j0 k y0 y1 y2) (spec_TreesOf.j0 (k + 1) y0 y1 y2)) ∧ (∀ y0 y1 y2 y3 y4 y5, LeO (spec_TreesOf.l0 k y0 y1 y2 y3 y4 y5) (spec_TreesOf.l0 (k + 1) y0 y1 y2 y3 y4 y5))
 | 0 => ⟨fun _ _ _ r h => by simp [spec_TreesOf.j0] at h, fun _ _ _ _ _ _ r h => by simp [spec_TreesOf.l0] at h⟩
 | k + 1 => by
  obtain ⟨ih0, ih1⟩ := spec_TreesOf.mono_l k
  refine ⟨?_, ?_⟩
  ·intro y0 y1 y2
   unfold spec_TreesOf.j0
   exact zm7
  ·intro y0 y1 y2 y3 y4 y5
   unfold spec_TreesOf.l0
   exact zm7
theorem spec_TreesOf.mono : ∀ a0 a1 k, LeO (spec_TreesOf.f k a0 a1) (spec_TreesOf.f (k + 1) a0 a1) := by
 intro a0 a1 k; obtain ⟨ih0, ih1⟩ := spec_TreesOf.mono_l k; unfold spec_TreesOf.f; exact zm7
theorem spec_TreesOf.calls (k : Nat) (aD : Int) (aH : Option Addr) (aG : Nat) (aC : List (S57)) (r1 : List (List Int)) (r2 : Bool) (w : World) (hr0_1 : Kd.C k57 w aH aC.length aC) (hc0_1 : aC.length ≤ aG) (h : spec_TreesOf.f k aD aC = some (r1, r2)) :
  Calls Try.prog 35 #[.agg #[.int .i64 aD, .slice aH aC.length aG]] w fun e w' => ∃ v0_ : Value, e = .returned (.tuple #[v0_, .bool r2]) ∧ Kd.N (Kd.slice 3 (Kd.int .i64)) 26 w' w.heap.size (fun k_ => (w.heap.size ≤ k_)) v0_ r1 ∧ Below w.heap.size w w' := by
 have hu25 := Try.underlying25; have bM := zK_ hr0_1; have bG := zK_ hc0_1; clear hr0_1 hc0_1; have HB := zK_ (Below.refl w.heap.size w); have H : ((spec_GraphOk.f k aD aC).bind fun bA => (if bA = true then ((spec_CountTrees.f k aD aC).bind fun bL => (spec_TreesOf.j0 k (decide (bL > 400)) aD aC)) else (spec_TreesOf.j0 k true aD aC))) = some (r1, r2) := h; clear h; have HC2 := zK_ H; clear H; go_enter Try.func35, Try.ntmps35; (go_upto_region 1 with (first | ((with_reducible refine gate_dst (N := 1) rfl ?_); refine box_event ?hg (N := 1) ?hd (cs := #[.int .i64 aD, .slice aH aC.length aG]) (t := 25) ?hr ?_; (case hd => rfl); (case hg => rfl); (case hr => exact zz9); intro aE hg w3 hbox hb; have n_ := zA4 (below_step zz1 hb) hbox (zz10 : w.heap.size ≤ aE) (zz10 : w.heap.size ≤ aE); clear HB; obtain ⟨HB, aA, GW101, GE101⟩ := n_; clear hb hbox hg))); (try simp only [Act.put, List.setIfInBounds_toArray, List.set_cons_zero, List.set_cons_succ]); go_cut [14] (fun v14 wc => ∃ (kq : Nat) (gQ : Bool), v14 = .bool gQ ∧ Aside0 (spec_TreesOf.j0 kq gQ aD aC = some (r1, r2)) ∧ Aside0 (kq ≤ k) ∧ Aside0 (wc.heap[aE]? = some (.cells #[.int .i64 aD, (.slice aH aC.length aG)] 25 (0, 0))) ∧ Aside0 (Below w.heap.size w wc))
 case first =>
  have H := HC2.out; clear HC2; obtain ⟨bA, A40, H⟩ := zO_ H; (try dsimp only at H); have A4 := zK_ A40; clear A40; by_cases c5 : bA = true; rotate_left
  ·replace c5 := Bool.eq_false_iff.mpr c5; subst c5; rw [if_neg (show ¬ (false = true) by decide)] at H; have H' := zK_ H; clear H; have eZ := zC20 aA; have eY := zC21 aA; have eW := blk_frozen aA.out 0; have eV := blk_frozen aA.out 1; (go_wp2_with (first | ((with_reducible refine gate_callee (f := 55) rfl ?_); refine goesL_ (some 8) rfl rfl Try.func55 (by kernel_rfl) rfl #[.agg #[.int .i64 aD, .slice aH aC.length aG]] rfl zz4 ?_; (with_reducible refine (spec_GraphOk.calls k aD _ _ aC false _ ?side1 ?side2 A4.out).mono ?_); (case side1 => exact zz6); (case side2 => exact bG.out); rintro e w12 ⟨rfl, hb⟩; refine ⟨_, rfl, ?_⟩; have n_ := zA2 (blk_below (g := aE) (o := .cells #[.int .i64 aD, .slice aH aC.length aG] 25 (0, 0)) zz2 hb) (below_step zz0 hb); clear aA HB; obtain ⟨aA, HB⟩ := n_; clear hb))); (go_meet); case rel => exact ⟨_, (true), zz5, H', ⟨by first | omega | exact Nat.le_refl _⟩, ⟨zz2⟩, ⟨zz0⟩⟩
  subst c5; rw [if_pos rfl] at H; obtain ⟨bL, A60, H⟩ := zO_ H; (try dsimp only at H); have A6 := zK_ A60; clear A60; have H' := zK_ H; clear H; have eE := zC20 aA; have d9 := zC21 aA; have dX := blk_frozen aA.out 0; have dW := blk_frozen aA.out 1; (go_wp2_with (first | ((with_reducible refine gate_callee (f := 55) rfl ?_); refine goesL_ (some 8) rfl rfl Try.func55 (by kernel_rfl) rfl #[.agg #[.int .i64 aD, .slice aH aC.length aG]] rfl zz4 ?_; (with_reducible refine (spec_GraphOk.calls k aD _ _ aC true _ ?side1 ?side2 A4.out).mono ?_); (case side1 => exact zz6); (case side2 => exact bG.out); rintro e w8 ⟨rfl, hb⟩; refine ⟨_, rfl, ?_⟩; have n_ := zA2 (blk_below (g := aE) (o := .cells #[.int .i64 aD, .slice aH aC.length aG] 25 (0, 0)) zz2 hb) (below_step zz0 hb); clear aA HB; obtain ⟨aA, HB⟩ := n_; clear hb; have d8 := zC20 aA; have d7 := zC21 aA; have dV := blk_frozen aA.out 0; have dU := blk_frozen aA.out 1) | (go_at_call 77; (with_reducible refine (spec_CountTrees.calls k aD _ _ aC bL _ ?side1 ?side2 A6.out).mono ?_); (case side1 => exact zz6); (case side2 => exact bG.out); rintro e w10 ⟨rfl, hb⟩; have n_ := zA2 (blk_below (g := aE) (o := .cells #[.int .i64 aD, .slice aH aC.length aG] 25 (0, 0)) zz2 hb) (below_step zz0 hb); clear aA HB; obtain ⟨aA, HB⟩ := n_; (try clear hb); (try clear hb2); (try clear hk); (try clear hi)))); (go_meet); case rel => exact ⟨_, (decide (bL > 400)), zz5, H', ⟨by first | omega | exact Nat.le_refl _⟩, ⟨zz2⟩, ⟨zz0⟩⟩
 case rest =>
  clear HC2; (try clear p2); (try clear c3); (try clear c5); (try clear eZ); (try clear eY); (try clear eE); (try clear d9); (try clear d8); (try clear d7); (try clear eW); (try clear eV); (try clear dX); (try clear dW); (try clear dV); (try clear dU); obtain ⟨kq, gQ, rfl, HA, HJ1, aA, HB⟩ := hcut
  cases kq with
  | zero => exact absurd HA.out (by simp [spec_TreesOf.j0])
  | succ kj1 =>
   have H := HA.out; clear HA; simp only [spec_TreesOf.j0] at H; by_cases c13 : gQ = true
   ·subst c13; rw [if_pos rfl] at H; simp only [Option.some.injEq, Prod.mk.injEq] at H; obtain ⟨rfl, rfl⟩ := H; go_wp2; (go_ret2); exact ⟨_, zz7, zz52, zz0⟩
   replace c13 := Bool.eq_false_iff.mpr c13; subst c13; rw [if_neg (show ¬ (false = true) by decide)] at H; obtain ⟨kI, hy_⟩ : ∃ y_ : List (List Int), y_ = (([] : List (List Int))) := ⟨_, rfl⟩; (replace H : ((spec_l03Sets.f (aC.length : Int) (wrap64 (aD - 1))).bind fun eR => (spec_TreesOf.l0 kj1 kI eR (eR.length : Int) 0 aD aC)) = some (r1, r2) := zzY); have jP := zK_ hy_; clear hy_; obtain ⟨eR, A140, H⟩ := zO_ H; (try dsimp only at H); have A14 := zK_ A140; clear A140; have H' := zK_ H; clear H; (go_wp2_with (first | ((with_reducible refine gate_dst (N := 15) rfl ?_); refine Kd.N_lit (Kd.slice 3 (Kd.int .i64)) _ 26 ?hg (N' := 15) ?hd (xs := ([] : List (List Int))) (inner := []) (ok := (fun k_ => (w.heap.size ≤ k_) ∧ k_ ≠ aE)) (okp := (fun k_ => (w.heap.size ≤ k_) ∧ k_ ≠ aE)) ?hr ?hp (fun _ hk => hk) ((show ∀ k_, wc.heap.size ≤ k_ → (fun k_ => (w.heap.size ≤ k_) ∧ k_ ≠ aE) k_ from fun k_ hk => ⟨(Nat.le_trans (below_size zz0) hk), Kd.freshB (g := aE) (o := .cells #[.int .i64 aD, .slice aH aC.length aG] 25 (0, 0)) zz2 k_ hk⟩) _ (Nat.le_refl _)) (Below.refl _ _) (Nat.le_refl _) (by simp) ?_; (case hd => rfl); (case hg => rfl); (case hr => exact zz9); (case hp => exact (Reps.none _ _)); intro v105 w15 ho16 hb hg_ hnew_; clear hg_ hnew_; (first | rw [← jP.out] at ho16 | (simp only [Int.reduceToNat] at ho16; rw [← jP.out] at ho16)); have n_ := zA3 (Kd.N_lower ho16 (below_size zz0)) (blk_below (g := aE) (o := .cells #[.int .i64 aD, .slice aH aC.length aG] 25 (0, 0)) zz2 hb) (below_step zz0 hb); clear aA HB; obtain ⟨gU, aA, HB⟩ := n_; clear hb ho16; have iR := zC20 aA; have iQ := zC21 aA; have iN := blk_frozen aA.out 0; have iM := blk_frozen aA.out 1) | ((with_reducible refine gate_callee (f := 78) rfl ?_); refine goesL_ (some 22) rfl rfl Try.func78 (by kernel_rfl) rfl #[.int .i64 (aC.length : Int), .int .i64 (wrap64 (aD - 1))] rfl zz4 ?_; (with_reducible refine (spec_l03Sets.calls (aC.length : Int) (wrap64 (aD - 1)) eR _ A14.out).mono ?_); rintro e w18 ⟨v108, rfl, ho0, hb⟩; refine ⟨_, rfl, ?_⟩; have n_ := zA4 (Kd.N_elder' (by (with_reducible repeat (first | apply Kd.N_alloc | apply Kd.N_drewN | apply Kd.N_drew)); exact gU.out) (Kd.N_base (Kd.S_N ho0)) hb) (Kd.N_lower (Kd.N_mono (ok' := fun k_ => (w.heap.size ≤ k_) ∧ some k_ ≠ (v105 : Value).ownBlock ∧ k_ ≠ aE) (Kd.S_N (Kd.S_bound ho0)) (fun k_ hk_ => ⟨(Nat.le_trans (below_size zz0) hk_.2.1), (Kd.fresh' (Kd.N_lt (by (with_reducible repeat (first | apply Kd.N_alloc | apply Kd.N_drewN | apply Kd.N_drew)); exact gU.out)) k_ hk_.2.1), (Kd.freshB (g := aE) (o := .cells #[.int .i64 aD, .slice aH aC.length aG] 25 (0, 0)) zz2 k_ hk_.2.1)⟩)) (below_size zz0)) (blk_below (g := aE) (o := .cells #[.int .i64 aD, .slice aH aC.length aG] 25 (0, 0)) zz2 hb) (below_step zz0 hb); clear gU aA HB; obtain ⟨gU, n7, aA, HB⟩ := n_; clear ho0 hb; obtain ⟨Ao19, co19, qN⟩ := Kd.N_slice n7.out; subst qN))); (go_loopg [4, 24] kj1 (fun kq v4 v24 w' => ∃ (mR : List (List Int)) (dS : Int), v24 = .int .i64 dS ∧ Aside0 (spec_TreesOf.l0 kq mR eR (eR.length : Int) dS aD aC = some (r1, r2)) ∧ Aside0 (kq ≤ kj1) ∧ Aside0 (Kd.N (Kd.slice 3 (Kd.int .i64)) 26 w' w.heap.size (fun k_ => (w.heap.size ≤ k_) ∧ some k_ ≠ ((.slice Ao19 eR.length co19) : Value).ownBlock ∧ k_ ≠ aE) v4 mR) ∧ Aside0 (Kd.N (Kd.slice 3 (Kd.int .i64)) 26 w' w.heap.size (fun k_ => (w.heap.size ≤ k_) ∧ some k_ ≠ (v4 : Value).ownBlock ∧ k_ ≠ aE) (.slice Ao19 eR.length co19) eR) ∧ Aside0 (w'.heap[aE]? = some (.cells #[.int .i64 aD, (.slice aH aC.length aG)] 25 (0, 0))) ∧ Aside0 (Below w.heap.size w w'))); case atStart => exact ⟨(kI), (0), zz5, H', ⟨Nat.le_refl _⟩, ⟨by (with_reducible repeat (first | apply Kd.N_alloc | apply Kd.N_drewN | apply Kd.N_drew)); exact Kd.N_mono gU.out (fun _ hk => ⟨hk.1.1, ⟨hk.2, hk.1.2⟩⟩)⟩, ⟨by (with_reducible repeat (first | apply Kd.N_alloc | apply Kd.N_drewN | apply Kd.N_drew)); exact n7.out⟩, ⟨zz2⟩, ⟨zz0⟩⟩
   case round =>
    clear H'; (try clear c1); (try clear p2); (try clear c3); (try clear c5); (try clear p6); (try clear c7); (try clear c13); (try clear eZ); (try clear eY); (try clear iR); (try clear iQ); (try clear eE); (try clear d9); (try clear d8); (try clear d7); (try clear eW); (try clear eV); (try clear iN); (try clear iM); (try clear dX); (try clear dW); (try clear dV); (try clear dU); (try clear p2); obtain ⟨mR, dS, rfl, HA, HK2, kN, fM, aA, HB⟩ := hrel
    cases gk with
    | zero => exact absurd HA.out (by simp [spec_TreesOf.l0])
    | succ k2 =>
     have H := HA.out; clear HA; simp only [spec_TreesOf.l0] at H; by_cases c20 : dS < (eR.length : Int); rotate_left
     ·rw [if_neg c20] at H; have kZ := decide_eq_false c20; (try (have kK := kZ; first | rw [g5] at kK | rw [← g5] at kK)); clear c20; simp only [Option.some.injEq, Prod.mk.injEq] at H; obtain ⟨rfl, rfl⟩ := H; go_wp2; (go_ret2); exact ⟨_, zz7, by (with_reducible repeat (first | apply Kd.N_alloc | apply Kd.N_drewN | apply Kd.N_drew)); exact Kd.N_mono kN.out (fun _ hk => hk.1), zz0⟩
     rw [if_pos c20] at H; have kZ := decide_eq_true c20; clear c20; by_cases c21 : 0 ≤ dS; rotate_left
     ·rw [if_neg c21] at H; exact absurd H (by simp)
     rw [if_pos c21] at H; have iV := decide_eq_true c21; clear c21; by_cases c22 : dS < (eR.length : Int); rotate_left
     ·rw [if_neg c22] at H; exact absurd H (by simp)
     rw [if_pos c22] at H; have kY := decide_eq_true c22; clear c22; obtain ⟨rA, A230, H⟩ := zO_ H; (try dsimp only at H); have A23 := zK_ A230; clear A230; by_cases c24 : rA = true; rotate_left
     ·replace c24 := Bool.eq_false_iff.mpr c24; subst c24; rw [if_neg (show ¬ (false = true) by decide)] at H; have H' := zK_ H; clear H; have p110 : 0 ≤ (dS : Int) := of_decide_eq_true zz3; have q110 : dS < (eR.length : Int) := of_decide_eq_true zz3; obtain ⟨k5, A110_0, c110_0, e110, lC, g5, hi110_0⟩ := at_L3 (Kd.N_reads' fM.out).2.2 dS p110 q110; cases e110; obtain ⟨ce110, hce110, hMe110, hcc110⟩ := Kd.N_get fM.out [] dS p110 (by first | exact q110 | exact of_decide_eq_true zz3 | (have e_ := (Kd.N_reads' fM.out).1; omega)); obtain ⟨ua110_0, uc110_0, rfl, ul110_0, ge110_0⟩ := Kd.FK_slice_open hMe110; have hv110_0 := hcc110 0 _ rfl; rw [Nat.add_zero, show ((Kd.slice 3 (Kd.int .i64))).sz = 1 from rfl, Nat.mul_one] at hv110_0; replace hv110_0 := Option.some.inj (hv110_0.symm.trans lC); injection hv110_0 with hva_ hvn_ hvc_; rw [hva_] at ge110_0; rw [hvc_] at ul110_0; have HL110_0 := zK_ (show Kd.V (Kd.int .i64) 3 _ w.heap.size _ _ (rd_L3 eR dS) from Kd.V_mk ul110_0 ge110_0); clear hva_ hvn_ hvc_ ge110_0 ul110_0; clear hcc110 hce110; have HR110_0 := zK_ hi110_0; have HC110_0 := zK_ g5; clear hi110_0 g5; replace p110 := eq_true p110; replace q110 := eq_true q110; have lN := zC20 aA; have lM := zC21 aA; have lF := blk_frozen aA.out 0; have lE := blk_frozen aA.out 1; (go_wp2_with (first | ((with_reducible refine gate_callee (f := 79) rfl ?_); refine goesL_ (some 30) rfl rfl Try.func79 (by kernel_rfl) rfl #[.agg #[.int .i64 aD, .slice aH aC.length aG], .slice A110_0 (rd_L3 eR dS).length c110_0] rfl zz4 ?_; (with_reducible refine (spec_l12Joins.calls k2 aD _ _ aC _ _ (rd_L3 eR dS) false _ ?side1 ?side2 ?side3 ?side4 A23.out).mono ?_); (case side1 => exact zz6); (case side2 => exact bG.out); (case side3 => repeat (first | exact zz41 | (with_reducible refine Kd.C_alloc ?_ _) | (with_reducible refine Kd.C_drewN ?_ _) | (with_reducible refine Kd.C_drew ?_))); (case side4 => exact HC110_0.out); rintro e w30 ⟨rfl, hb⟩; refine ⟨_, rfl, ?_⟩; have n_ := zA6 (Kd.N_below (by (with_reducible repeat (first | apply Kd.N_alloc | apply Kd.N_drewN | apply Kd.N_drew)); exact kN.out) hb) (Kd.N_below (by (with_reducible repeat (first | apply Kd.N_alloc | apply Kd.N_drewN | apply Kd.N_drew)); exact fM.out) hb) (Kd.V_below (by (with_reducible repeat (first | apply Kd.V_alloc | apply Kd.V_drewN | apply Kd.V_drew)); exact HL110_0.out) hb) (blk_below (g := aE) (o := .cells #[.int .i64 aD, .slice aH aC.length aG] 25 (0, 0)) zz2 hb) (Kd.C_below zz41 hb) (below_step zz0 hb); clear kN fM HL110_0 aA HR110_0 HB; obtain ⟨kN, fM, HL110_0, aA, HR110_0, HB⟩ := n_; clear hb))); go_roundg k2; (case measure => have := HJ1.out; have := HK2.out; omega); case rel => exact ⟨(mR), (wrap64 (dS + 1)), zz5, H', ⟨by have := HJ1.out; have := HK2.out; omega⟩, ⟨by (with_reducible repeat (first | apply Kd.N_alloc | apply Kd.N_drewN | apply Kd.N_drew)); exact kN.out⟩, ⟨by (with_reducible repeat (first | apply Kd.N_alloc | apply Kd.N_drewN | apply Kd.N_drew)); exact fM.out⟩, ⟨zz2⟩, ⟨zz0⟩⟩
     subst c24; rw [if_pos rfl] at H; by_cases c25 : mR.length < 5864062014805; rotate_left
     ·rw [if_neg c25] at H; exact absurd H (by simp)
     rw [if_pos c25] at H; have mO := zK_ c25; clear c25; obtain ⟨rU, hy_⟩ : ∃ y_ : List (List Int), y_ = (mR ++ [rd_L3 eR dS]) := ⟨_, rfl⟩; (replace H : (spec_TreesOf.l0 k2 rU eR (eR.length : Int) (wrap64 (dS + 1)) aD aC) = some (r1, r2) := zzY); have tJ := zK_ hy_; clear hy_; have H' := zK_ H; clear H; have p110 : 0 ≤ (dS : Int) := of_decide_eq_true zz3; have q110 : dS < (eR.length : Int) := of_decide_eq_true zz3; obtain ⟨k5, A110_0, c110_0, e110, lC, g5, hi110_0⟩ := at_L3 (Kd.N_reads' fM.out).2.2 dS p110 q110; cases e110; obtain ⟨ce110, hce110, hMe110, hcc110⟩ := Kd.N_get fM.out [] dS p110 (by first | exact q110 | exact of_decide_eq_true zz3 | (have e_ := (Kd.N_reads' fM.out).1; omega)); obtain ⟨ua110_0, uc110_0, rfl, ul110_0, ge110_0⟩ := Kd.FK_slice_open hMe110; have hv110_0 := hcc110 0 _ rfl; rw [Nat.add_zero, show ((Kd.slice 3 (Kd.int .i64))).sz = 1 from rfl, Nat.mul_one] at hv110_0; replace hv110_0 := Option.some.inj (hv110_0.symm.trans lC); injection hv110_0 with hva_ hvn_ hvc_; rw [hva_] at ge110_0; rw [hvc_] at ul110_0; have HL110_0 := zK_ (show Kd.V (Kd.int .i64) 3 _ w.heap.size _ _ (rd_L3 eR dS) from Kd.V_mk ul110_0 ge110_0); clear hva_ hvn_ hvc_ ge110_0 ul110_0; clear hcc110 hce110; have HR110_0 := zK_ hi110_0; have HC110_0 := zK_ g5; clear hi110_0 g5; replace p110 := eq_true p110; replace q110 := eq_true q110; have iP := zC20 aA; have iO := zC21 aA; have iL := blk_frozen aA.out 0; have iK := blk_frozen aA.out 1; (go_wp2_with (first | ((with_reducible refine gate_callee (f := 79) rfl ?_); refine goesL_ (some 30) rfl rfl Try.func79 (by kernel_rfl) rfl #[.agg #[.int .i64 aD, .slice aH aC.length aG], .slice A110_0 (rd_L3 eR dS).length c110_0] rfl zz4 ?_; (with_reducible refine (spec_l12Joins.calls k2 aD _ _ aC _ _ (rd_L3 eR dS) true _ ?side1 ?side2 ?side3 ?side4 A23.out).mono ?_); (case side1 => exact zz6); (case side2 => exact bG.out); (case side3 => repeat (first | exact zz41 | (with_reducible refine Kd.C_alloc ?_ _) | (with_reducible refine Kd.C_drewN ?_ _) | (with_reducible refine Kd.C_drew ?_))); (case side4 => exact HC110_0.out); rintro e w27 ⟨rfl, hb⟩; refine ⟨_, rfl, ?_⟩; have n_ := zA6 (Kd.N_below (by (with_reducible repeat (first | apply Kd.N_alloc | apply Kd.N_drewN | apply Kd.N_drew)); exact kN.out) hb) (Kd.N_below (by (with_reducible repeat (first | apply Kd.N_alloc | apply Kd.N_drewN | apply Kd.N_drew)); exact fM.out) hb) (Kd.V_below (by (with_reducible repeat (first | apply Kd.V_alloc | apply Kd.V_drewN | apply Kd.V_drew)); exact HL110_0.out) hb) (blk_below (g := aE) (o := .cells #[.int .i64 aD, .slice aH aC.length aG] 25 (0, 0)) zz2 hb) (Kd.C_below zz41 hb) (below_step zz0 hb); clear kN fM HL110_0 aA HR110_0 HB; obtain ⟨kN, fM, HL110_0, aA, HR110_0, HB⟩ := n_; clear hb) | ((with_reducible refine gate_builtin (b := .append) (xs := #[.tmp 31, .tmp 33]) rfl ?_); at_builtin; refine Kd.N_append (Kd.slice 3 (Kd.int .i64)) (w0 := w) w.heap.size rfl (.tmp 31) (.tmp 33) 34 26 (.slice none 0 0) 24 rfl Try.underlying34 info26 rfl (by decide) (by omega) u4 mR (rd_L3 eR dS) [.slice A110_0 (rd_L3 eR dS).length c110_0] (fun k_ => (w.heap.size ≤ k_) ∧ some k_ ≠ (.slice (some k5) eR.length co19 : Value).ownBlock ∧ k_ ≠ aE) (fun k_ => ((fun k_ => (w.heap.size ≤ k_) ∧ some k_ ≠ (.slice (some k5) eR.length co19 : Value).ownBlock ∧ k_ ≠ aE)) k_ ∧ some k_ ≠ (u4 : Value).ownBlock) rfl rfl ?aP (fun _ hk => hk) ?aF ?aO ?aB ?aS ?aL ?_; (case aP => exact (Kd.FK_slice_mk (Kd.V_reads' (Kd.V_mono (ok' := (fun k_ => ((fun k_ => (w.heap.size ≤ k_) ∧ some k_ ≠ (.slice (some k5) eR.length co19 : Value).ownBlock ∧ k_ ≠ aE)) k_ ∧ some k_ ≠ (u4 : Value).ownBlock)) (HL110_0.out) (fun k_ hk => ⟨⟨hk.1.1, ⟨hk.2, hk.1.2.2⟩⟩, hk.1.2.1⟩))).2.1 (Kd.V_F (Kd.V_mono (ok' := (fun k_ => ((fun k_ => (w.heap.size ≤ k_) ∧ some k_ ≠ (.slice (some k5) eR.length co19 : Value).ownBlock ∧ k_ ≠ aE)) k_ ∧ some k_ ≠ (u4 : Value).ownBlock)) (HL110_0.out) (fun k_ hk => ⟨⟨hk.1.1, ⟨hk.2, hk.1.2.2⟩⟩, hk.1.2.1⟩))))); (case aB => exact zz0); (case aF => exact (fun k_ hk => ⟨(Nat.le_trans (below_size zz0) hk), Kd.fresh' (Kd.N_lt (by (with_reducible repeat (first | apply Kd.N_alloc | apply Kd.N_drewN | apply Kd.N_drew)); exact fM.out)) k_ hk, Kd.freshB (g := aE) (o := .cells #[.int .i64 aD, .slice aH aC.length aG] 25 (0, 0)) zz2 k_ hk⟩)); (case aO => exact (by (with_reducible repeat (first | apply Kd.N_alloc | apply Kd.N_drewN | apply Kd.N_drew)); exact kN.out)); (case aS => exact (below_size zz0)); (case aL => have := mO.out; omega); intro v113 w28 ho hb hg hat; rw [← tJ.out] at ho; have n_ := zA5 (Kd.N_afterv (ok := (fun k_ => (w.heap.size ≤ k_) ∧ k_ ≠ aE)) (by (with_reducible repeat (first | apply Kd.N_alloc | apply Kd.N_drewN | apply Kd.N_drew)); exact Kd.N_mono fM.out (fun _ hk => ⟨⟨hk.1, hk.2.2⟩, hk.2.1⟩)) hg hat) (blk_grown (g := aE) (o := .cells #[.int .i64 aD, .slice aH aC.length aG] 25 (0, 0)) zz2 hg (Kd.N_ne kN.out aA.out (by decide))) (Kd.V_afterv (ok := (fun k_ => (w.heap.size ≤ k_) ∧ some k_ ≠ (.slice (some k5) eR.length co19 : Value).ownBlock ∧ k_ ≠ aE)) (by (with_reducible repeat (first | apply Kd.V_alloc | apply Kd.V_drewN | apply Kd.V_drew)); exact Kd.V_mono HL110_0.out (fun _ hk => ⟨⟨hk.1.1, ⟨hk.2, hk.1.2.2⟩⟩, hk.1.2.1⟩)) hg hat) hb ho; clear fM aA HL110_0 HB kN; obtain ⟨fM, aA, HL110_0, HB, tV⟩ := n_; clear ho hb hg hat))); go_roundg k2; (case measure => have := HJ1.out; have := HK2.out; omega); case rel => exact ⟨(rU), (wrap64 (dS + 1)), zz5, H', ⟨by have := HJ1.out; have := HK2.out; omega⟩, ⟨by (with_reducible repeat (first | apply Kd.N_alloc | apply Kd.N_drewN | apply Kd.N_drew)); exact tV.out⟩, ⟨by (with_reducible repeat (first | apply Kd.N_alloc | apply Kd.N_drewN | apply Kd.N_drew)); exact Kd.N_mono fM.out (fun _ hk => ⟨hk.1.1, ⟨hk.2, hk.1.2⟩⟩)⟩, ⟨zz2⟩, ⟨zz0⟩⟩
end Go.Proofs.Ytnbljcgdgblgoaa.P
end

section
namespace Go.Proofs.Ytnbljcgdgblgoaa.Cf
set_option linter.unusedVariables false
set_option linter.unusedSimpArgs false
open Go.RowKit Go.Proofs.YtnbljcgdgblgoaaW.PrintWords Go.Proofs.Ytnbljcgdgblgoaa.P
theorem specAll_l0 (m : Nat) (hm : m ≤ 100) : ∀ (d i : Nat), i + d = m → Ep (fun k => spec_l03All.l0 k (m : Int) (upTo i) (i : Int)) (· = upTo m) := by
 intro d
 induction d with
 | zero =>
  intro i hi
  refine Ep.up ?_
  simp only [spec_l03All.l0]
  refine Ep.neg (by omega) (Ep.now ?_)
  rw [show i = m by omega]
 | succ d ih =>
  intro i hi
  have h := ih (i + 1) (by omega)
  have e : upTo (i + 1) = upTo i ++ [(i : Int)] := by unfold upTo; rw [List.range_succ, List.map_append]; rfl
  rw [e] at h
  have hl : (upTo i).length = i := by unfold upTo; simp
  refine Ep.up ?_
  simp only [spec_l03All.l0]
  refine Ep.pos (by omega) (Ep.pos (by omega) ?_)
  rw [wrap_succ (by omega)]
  exact h
theorem specAll (m : Nat) (hm : m ≤ 100) : Ep (fun k => spec_l03All.f k (m : Int)) (· = upTo m) := by
 simp only [spec_l03All.f]
 exact specAll_l0 m hm m 0 (by omega)
theorem specDeterminant {m : Nat} (hm : m ≤ 5) {M : List (List Int)} (hM : SqOk m M) : Ep (fun k => spec_Determinant.f k M) (· = detL M (upTo m) (upTo m)) := by
 have hM1 := hM.1
 have hu : (upTo m).length = m := by unfold upTo; simp
 simp only [spec_Determinant.f]
 refine Ep.bind (specMatrixOk hm hM) ?_
 rintro _ rfl
 rw [hM1]
 refine Ep.pos rfl (Ep.bind (specAll m (by omega)) ?_)
 rintro _ rfl
 refine Ep.bind (specAll m (by omega)) ?_
 rintro _ rfl
 refine Ep.bind (specDet hm hM (upTo m) (by omega) (fun r hr => upTo_mem.1 hr) (upTo m) (by omega) (fun r hr => upTo_mem.1 hr)) ?_
 rintro _ rfl
 exact Ep.now rfl
theorem specCountTrees {n : Nat} {es : List E} (hg : GOk (n : Int) es) : Ep (fun k => spec_CountTrees.f k (n : Int) es) (· = dlap es (vsL n 0)) := by
 have hG := hg.1
 unfold EsOk at hG
 simp only [spec_CountTrees.f]
 refine Ep.bind (specGraph _ _) ?_
 rintro _ rfl
 refine Ep.pos (gOk_iff.2 hg) (Ep.bind (specRL hg (q := 0) (by omega)) ?_)
 rintro _ rfl
 refine Ep.bind (specDeterminant (by omega) (redM_sq (q := 0) (by omega) hG.2.2.1)) ?_
 rintro _ rfl
 rw [redM_det (by omega)]
 exact Ep.now rfl
theorem Ep.all {α β : Type} {f : Nat → α → Option β} {g : α → β} : ∀ (L : List α), (∀ x ∈ L, Ep (fun k => f k x) (· = g x)) → ∃ K, ∀ k, K ≤ k → ∀ x ∈ L, f k x = some (g x)
 | [], _ => ⟨0, fun k _ x hx => absurd hx List.not_mem_nil⟩
 | a :: L, h => by
  obtain ⟨K, hK⟩ := Ep.all L fun x hx => h x (List.mem_cons_of_mem _ hx)
  obtain ⟨_, rfl, J, hJ⟩ := h a List.mem_cons_self
  refine ⟨max K J, fun k hk x hx => ?_⟩
  rcases List.mem_cons.1 hx with rfl | hx
  ·exact hJ k (by omega)
  ·exact hK k (by omega) x hx
end Go.Proofs.Ytnbljcgdgblgoaa.Cf
end

section
namespace Go.Proofs.Ytnbljcgdgblgoaa.P
open Go.RowKit Go.Proofs.YtnbljcgdgblgoaaW.PrintWords Go.Proofs.YtnbljcgdgblgoaaW.PrintLast Go.Proofs.YtnbljcgdgblgoaaW.PrintMore
attribute [local go_sem] max2_int min2_int max_two min_two max_three min_three max_four min_four
set_option linter.unusedVariables false
set_option linter.unusedSimpArgs false
def impl_ParkingsOf.upS (q : Nat) (L : List (List Int)) (i : Nat) : List (List Int) := (L.take i).map (fun x => x.set q (-1)) ++ L.drop i
theorem impl_ParkingsOf.upS_len (q : Nat) (L : List (List Int)) (i : Nat) : (impl_ParkingsOf.upS q L i).length = L.length := by unfold impl_ParkingsOf.upS; rw [List.length_append, List.length_map, List.length_take, List.length_drop]; omega
theorem impl_ParkingsOf.upS_get (q : Nat) {L : List (List Int)} {i : Nat} (h : i < L.length) : (impl_ParkingsOf.upS q L i).getD i [] = L[i] := by
 unfold impl_ParkingsOf.upS; rw [List.getD_eq_getElem?_getD, List.getElem?_append_right (by rw [List.length_map, List.length_take]; omega), List.length_map, List.length_take, Nat.min_eq_left (by omega), Nat.sub_self, List.getElem?_drop, Nat.add_zero, List.getElem?_eq_getElem h]; rfl
theorem impl_ParkingsOf.upS_set (q : Nat) {L : List (List Int)} {i : Nat} (h : i < L.length) : (impl_ParkingsOf.upS q L i).set i (L[i].set q (-1)) = impl_ParkingsOf.upS q L (i + 1) := by
 unfold impl_ParkingsOf.upS; (have hl : ((L.take i).map fun x => x.set q (-1)).length = i := by rw [List.length_map, List.length_take]; omega); rw [List.set_append_right _ _ (by omega), hl, Nat.sub_self, List.drop_eq_getElem_cons h, List.set_cons_zero, List.take_succ_eq_append_getElem h, List.map_append, List.append_assoc]; rfl
def impl_ParkingsOf.f (k : Nat) (a0 : Int) (es : List S57) (q : Int) : Option (List (List Int) × Bool) :=
 (impl_isVertex.f a0 es q).bind fun t => if t = true then (impl_GroupOrder.f k a0 es).bind fun c => if c ≤ 400 then (impl_reducedAt.f k a0 es q).bind fun L => if 0 ≤ q ∧ (∀ x ∈ L, q < (x.length : Int) ∧ x.length ≤ 1000000) ∧ L.length ≤ 1000000000 then some (L.map (fun x => x.set q.toNat (-1)), true) else none else some ([], false) else some ([], false)
theorem impl_ParkingsOf.mono : ∀ a0 a1 a2 k, LeO (impl_ParkingsOf.f k a0 a1 a2) (impl_ParkingsOf.f (k + 1) a0 a1 a2) := by
 intro a0 a1 a2 k; unfold impl_ParkingsOf.f; exact LeO.bind (LeO.refl _) fun t => LeO.ite (LeO.bind (impl_GroupOrder.mono _ _ k) fun c => LeO.ite (LeO.bind (impl_reducedAt.mono _ _ _ k) fun _ => LeO.refl _) (LeO.refl _)) (LeO.refl _)
theorem impl_ParkingsOf.calls (k : Nat) (aD : Int) (aH : Option Addr) (aG : Nat) (aC : List S57) (a1 : Int) (r1 : List (List Int)) (r2 : Bool) (w : World) (hr0_1 : Kd.C k57 w aH aC.length aC) (hc0_1 : aC.length ≤ aG) (h : impl_ParkingsOf.f k aD aC a1 = some (r1, r2)) :
  Calls Try.prog 14 #[.agg #[.int .i64 aD, .slice aH aC.length aG], .int .i64 a1] w fun e w' => ∃ v0_ : Value, e = .returned (.tuple #[v0_, .bool r2]) ∧ Kd.S (Kd.slice 3 (Kd.int .i64)) 26 w' w.heap.size (fun _ => True) v0_ r1 ∧ Below w.heap.size w w' := by
 have hu25 := Try.underlying25; have HE := zK_ hr0_1; have HC := zK_ hc0_1; clear hr0_1 hc0_1; unfold impl_ParkingsOf.f at h; replace h := zO_ h; obtain ⟨t, ht, h⟩ := h; have HTT := zK_ ht; clear ht
 cases t with
 | false =>
  rw [if_neg (by simp)] at h; obtain ⟨rfl, rfl⟩ := Prod.mk.inj (Option.some.inj h); clear h; go_enter Try.func14, Try.ntmps14; (go_wp2_with (first | ((with_reducible refine gate_dst (N := 2) rfl ?_); refine box_event ?hg (N := 2) ?hd (cs := #[.int .i64 aD, .slice aH aC.length aG]) (t := 25) ?hr ?_; (case hd => rfl); (case hg => rfl); (case hr => exact zz9); intro gg hg w1 hbox hb; have BG1 := zK_ hbox; have HB1 := zK_ hb; have hz0 : w1.cell? ⟨gg, 0, none⟩ = some (.int .i64 aD) := (blk_cell BG1.out 0).trans rfl; have hz1 : w1.cell? ⟨gg, 1, none⟩ = some (.slice aH aC.length aG) := (blk_cell BG1.out 1).trans rfl; clear hg hbox hb))); refine (impl_isVertex.calls aD _ _ aC a1 false _ (Kd.C_below HE.out HB1.out) HC.out HTT.out).mono ?_; rintro e w2 ⟨rfl, hb⟩; have BG2 := zK_ (blk_below BG1.out hb); have HB2 := zK_ (below_step HB1.out hb); clear hb hz0 hz1; go_wp2; (go_ret2); exact ⟨_, rfl, Kd.S_nil _ _ _ _ _, HB2.out⟩
 | true =>
  rw [if_pos rfl] at h; replace h := zO_ h; obtain ⟨c, hc, h⟩ := h; have HCT := zK_ hc; clear hc; by_cases hle : c ≤ 400; rotate_left
  ·rw [if_neg hle] at h; obtain ⟨rfl, rfl⟩ := Prod.mk.inj (Option.some.inj h); clear h; have d0 : decide (c > 400) = true := decide_eq_true (by omega); have d1 : decide (400 < c) = true := decide_eq_true (by omega); go_enter Try.func14, Try.ntmps14; (go_wp2_with (first | ((with_reducible refine gate_dst (N := 2) rfl ?_); refine box_event ?hg (N := 2) ?hd (cs := #[.int .i64 aD, .slice aH aC.length aG]) (t := 25) ?hr ?_; (case hd => rfl); (case hg => rfl); (case hr => exact zz9); intro gg hg w1 hbox hb; have BG1 := zK_ hbox; have HB1 := zK_ hb; have hz0 : w1.cell? ⟨gg, 0, none⟩ = some (.int .i64 aD) := (blk_cell BG1.out 0).trans rfl; have hz1 : w1.cell? ⟨gg, 1, none⟩ = some (.slice aH aC.length aG) := (blk_cell BG1.out 1).trans rfl; clear hg hbox hb))); refine (impl_isVertex.calls aD _ _ aC a1 true _ (Kd.C_below HE.out HB1.out) HC.out HTT.out).mono ?_; rintro e w2 ⟨rfl, hb⟩; have BG2 := zK_ (blk_below BG1.out hb); have HB2 := zK_ (below_step HB1.out hb); clear hb hz0 hz1; have hz0 : w2.cell? ⟨gg, 0, none⟩ = some (.int .i64 aD) := (blk_cell BG2.out 0).trans rfl; have hz1 : w2.cell? ⟨gg, 1, none⟩ = some (.slice aH aC.length aG) := (blk_cell BG2.out 1).trans rfl; (go_wp2_with fail); refine (impl_GroupOrder.calls k aD _ _ aC c _ (Kd.C_below HE.out HB2.out) HC.out HCT.out).mono ?_; rintro e w3 ⟨rfl, hb⟩; have BG3 := zK_ (blk_below BG2.out hb); have HB3 := zK_ (below_step HB2.out hb); clear hb hz0 hz1 BG2 BG1; go_wp2; (go_ret2); exact ⟨_, rfl, Kd.S_nil _ _ _ _ _, HB3.out⟩
  rw [if_pos hle] at h; replace h := zO_ h; obtain ⟨L, hL, h⟩ := h; (split at h); (case isFalse => cases h); rename_i hok; obtain ⟨rfl, rfl⟩ := Prod.mk.inj (Option.some.inj h); clear h; obtain ⟨hq0, hql, hLl⟩ := hok; obtain ⟨q, rfl⟩ := Int.eq_ofNat_of_zero_le hq0; rw [Int.toNat_natCast]; have HLL := zK_ hL; have HQL := zK_ hql; have HLn := zK_ hLl; (have hnb : (L.length : Int) ≤ 1000000000 := by omega); have d0 : decide (c > 400) = false := decide_eq_false (by omega); have d1 : decide (400 < c) = false := decide_eq_false (by omega); clear hq0 hql hLl hL hle; go_enter Try.func14, Try.ntmps14; (go_wp2_with (first | ((with_reducible refine gate_dst (N := 2) rfl ?_); refine box_event ?hg (N := 2) ?hd (cs := #[.int .i64 aD, .slice aH aC.length aG]) (t := 25) ?hr ?_; (case hd => rfl); (case hg => rfl); (case hr => exact zz9); intro gg hg w1 hbox hb; have BG1 := zK_ hbox; have HB1 := zK_ hb; have hz0 : w1.cell? ⟨gg, 0, none⟩ = some (.int .i64 aD) := (blk_cell BG1.out 0).trans rfl; have hz1 : w1.cell? ⟨gg, 1, none⟩ = some (.slice aH aC.length aG) := (blk_cell BG1.out 1).trans rfl; clear hg hbox hb))); refine (impl_isVertex.calls aD _ _ aC (q : Int) true _ (Kd.C_below HE.out HB1.out) HC.out HTT.out).mono ?_; rintro e w2 ⟨rfl, hb⟩; have BG2 := zK_ (blk_below BG1.out hb); have HB2 := zK_ (below_step HB1.out hb); clear hb hz0 hz1; have hz0 : w2.cell? ⟨gg, 0, none⟩ = some (.int .i64 aD) := (blk_cell BG2.out 0).trans rfl; have hz1 : w2.cell? ⟨gg, 1, none⟩ = some (.slice aH aC.length aG) := (blk_cell BG2.out 1).trans rfl; (go_wp2_with fail); refine (impl_GroupOrder.calls k aD _ _ aC c _ (Kd.C_below HE.out HB2.out) HC.out HCT.out).mono ?_; rintro e w3 ⟨rfl, hb⟩; have BG3 := zK_ (blk_below BG2.out hb); have HB3 := zK_ (below_step HB2.out hb); clear hb hz0 hz1 BG2 BG1; have hz0 : w3.cell? ⟨gg, 0, none⟩ = some (.int .i64 aD) := (blk_cell BG3.out 0).trans rfl; have hz1 : w3.cell? ⟨gg, 1, none⟩ = some (.slice aH aC.length aG) := (blk_cell BG3.out 1).trans rfl; (go_wp2_with fail); refine (impl_reducedAt.calls k aD _ _ aC (q : Int) L _ (Kd.C_below HE.out HB3.out) HC.out HLL.out).mono ?_; rintro e w4 ⟨v4, rfl, hS, hb⟩; have HB4 := zK_ (below_step HB3.out hb); have hS4 := Kd.S_lower hS HB3.out.size; obtain ⟨A, cA, eA⟩ := Kd.S_slice hS4; subst eA; have HS4 := zK_ hS4; clear hS hb hz0 hz1 hS4 BG3; (try go_wp2); (go_loopw [23] (fun v23 wr => ∃ i : Nat, v23 = .int .i64 (i : Int) ∧ Aside0 (i ≤ L.length) ∧ Aside0 (Below w.heap.size w wr) ∧ Aside0 (Kd.S (Kd.slice 3 (Kd.int .i64)) 26 wr w.heap.size (fun _ => True) (.slice A L.length cA) (impl_ParkingsOf.upS q L i))) (fun v _ => L.length - (intOf v).toNat)); case atStart => exact ⟨0, rfl, ⟨Nat.zero_le _⟩, HB4, HS4⟩
  case round =>
   clear HS4 HB4; obtain ⟨i, rfl, HI, HBr, HS⟩ := hrel; by_cases hlt : i < L.length; rotate_left
   ·have c0_ : decide ((i : Int) < (L.length : Int)) = false := decide_eq_false (by omega); have c1_ : decide (i < L.length) = false := decide_eq_false hlt; (have hi : i = L.length := by have := HI.out; omega); subst hi; clear hlt; (have eU : impl_ParkingsOf.upS q L L.length = L.map (fun x => x.set q (-1)) := by unfold impl_ParkingsOf.upS; rw [List.take_length, List.drop_length, List.append_nil]); have hS := HS.out; rw [eU] at hS; have HS9 := zK_ hS; clear hS HS eU; go_wp2; (go_ret2); exact ⟨_, rfl, HS9.out, HBr.out⟩
   have c0_ : decide ((i : Int) < (L.length : Int)) = true := decide_eq_true (by omega); have c1_ : decide (i < L.length) = true := decide_eq_true hlt; (have p1 : (0 : Int) ≤ (i : Int) := by omega); (have p2 : (i : Int) < (L.length : Int) := by omega); (have hib : (i : Int) ≤ 1000000000 := by omega); have hS := HS.out; rw [← impl_ParkingsOf.upS_len q L i] at hS; obtain ⟨g, cap, eg, _⟩ := Kd.S_form hS (by rw [impl_ParkingsOf.upS_len]; omega); injection eg with eA _ eC; subst eA; subst eC; rw [impl_ParkingsOf.upS_len q L i] at hS; obtain ⟨oki, cc, _, hM, hcell, hoki, hback⟩ := Kd.S_borrow hS ([] : List Int) (i : Int) p1 p2; obtain ⟨vx, hvx, hRx⟩ := hM; subst hvx; replace hcell := hcell 0 vx rfl; rw [Int.toNat_natCast, impl_ParkingsOf.upS_get q hlt] at hRx; obtain ⟨hxq, hxl⟩ := HQL.out _ (List.getElem_mem hlt); have hset := impl_ParkingsOf.upS_set q hlt; rw [Int.toNat_natCast] at hback; generalize L[i] = x at hRx hxq hxl hset; (have hxq2 : q < x.length := by omega); obtain ⟨gr, cr, er, _⟩ := Kd.R_form hRx (by omega); subst er; rw [Int.toNat_natCast, show i * (Kd.slice 3 (Kd.int .i64)).sz + 0 = i from Nat.mul_one i, add_plain] at hcell; (have q1 : (0 : Int) ≤ (q : Int) := by omega); obtain ⟨hmv, hmf⟩ := Kd.R_celln 0 hRx (q : Int) q1 hxq; have hput := Kd.R_putg hRx (q : Int) (-1); rw [Int.toNat_natCast] at hmv hmf hput; have hokr : oki gr := hRx.1 gr rfl; have HBK := zK_ (hback (w1 := wr.setCell ⟨gr, q, none⟩ (.int .i64 (-1))) (x' := x.set q (-1)) hput.2 (fun k_ e => by injection e with e; rw [← e]; exact hokr) ⟨_, rfl, by have h_ := hput.1; exact h_⟩); have HGR := zK_ (Kd.R_base hRx gr rfl); have HSET := zK_ hset; have HLT := zK_ hlt; clear hback hput hRx hS hoki hokr hset hlt; go_wp2; go_roundw
   case rel =>
    refine ⟨i + 1, by go_num, ⟨HLT.out⟩, ⟨below_set HBr.out HGR.out⟩, ⟨?_⟩⟩; rw [← HSET.out]; exact HBK.out
   case measure =>
    have := HLT.out; (simp [intOf]); omega
def spec_l11All.T3 : Bool × List (List Nat × List Nat) := (true, [([], []), ([], []), ([], []), ([0, 1, 2], [0, 1, 2]), ([3], [3]), ([], []), ([5], [5]), ([4, 6], [4, 6])])
def spec_l11All.B3 : List Nat := [0, 0, 0, 7, 15, 0, 32, 127]
theorem spec_l11All.tab3 : rtab .any (opsOf Try.f58 3) = spec_l11All.T3 := by kernel_rfl
theorem spec_l11All.bits3 : waitsOk spec_l11All.T3.2 spec_l11All.B3 = true := by kernel_rfl
def spec_l11All.T12 : Bool × List (List Nat × List Nat) := (true, [([], []), ([], []), ([], []), ([], []), ([2, 3], [2, 3]), ([], []), ([5], [5]), ([4, 6, 4], [4, 6]), ([], []), ([0, 1, 7, 8, 7], [0, 1, 7, 8]), ([9, 9, 0, 1, 2, 3, 4, 5, 6, 7, 8, 9], [8, 9])])
def spec_l11All.B12 : List Nat := [0, 0, 0, 0, 12, 0, 32, 124, 0, 511, 1023]
theorem spec_l11All.tab12 : rtab .any (opsOf Try.f58 12) = spec_l11All.T12 := by kernel_rfl
theorem spec_l11All.bits12 : waitsOk spec_l11All.T12.2 spec_l11All.B12 = true := by kernel_rfl
def spec_l11All.cnt (k : Nat) (a0 : Int) (es : List S57) (q : Int) (v : Nat) : Nat := if (v : Int) = q then 1 else (mx 1 ((spec_Valence.f k a0 es (v : Int)).getD 0)).toNat
def spec_l11All.pr (k : Nat) (a0 : Int) (es : List S57) (q : Int) (x : List Int) : Bool := match spec_l05Burn.f k a0 es x q with | some r => decide ((r.length : Int) = a0) | none => false
abbrev spec_l11All.ok0 (k : Nat) (a0 : Int) (es : List S57) (q : Int) : Prop := (0 ≤ a0 ∧ a0 ≤ 6) ∧ ∀ v, v < a0.toNat → (spec_Valence.f k a0 es (v : Int)).isSome = true ∧ 0 ≤ (spec_Valence.f k a0 es (v : Int)).getD 0 ∧ (spec_Valence.f k a0 es (v : Int)).getD 0 ≤ 24
abbrev spec_l11All.ok1 (k : Nat) (a0 : Int) (es : List S57) (q : Int) : Prop := ∀ x ∈ Cf.dfsB (spec_l11All.cnt k a0 es q) a0.toNat 0 [], (spec_l05Burn.f k a0 es x q).isSome = true
def spec_l11All.f (k : Nat) (a0 : Int) (es : List S57) (q : Int) : Option (List (List Int)) := if spec_l11All.ok0 k a0 es q ∧ spec_l11All.ok1 k a0 es q then some ((Cf.dfsB (spec_l11All.cnt k a0 es q) a0.toNat 0 []).filter fun x => spec_l11All.pr k a0 es q x) else none
theorem spec_l11All.val_up (k : Nat) {a0 : Int} {es : List S57} {v : Int} (h : (spec_Valence.f k a0 es v).isSome = true) : spec_Valence.f (k + 1) a0 es v = spec_Valence.f k a0 es v := by
 obtain ⟨b, hb⟩ := Option.isSome_iff_exists.1 h; rw [hb, spec_Valence.mono _ _ _ k _ hb]
theorem spec_l11All.burn_up (k : Nat) {a0 q : Int} {es : List S57} {x : List Int} (h : (spec_l05Burn.f k a0 es x q).isSome = true) : spec_l05Burn.f (k + 1) a0 es x q = spec_l05Burn.f k a0 es x q := by
 obtain ⟨b, hb⟩ := Option.isSome_iff_exists.1 h; rw [hb, spec_l05Burn.mono _ _ _ _ k _ hb]
theorem spec_l11All.box_congr {c d : Nat → Nat} : ∀ {n : Nat}, (∀ v, v < n → c v = d v) → Cf.boxL c n = Cf.boxL d n
 | 0, _ => rfl
 | n + 1, h => by rw [Cf.boxL, Cf.boxL, spec_l11All.box_congr fun v hv => h v (by omega), h n (by omega)]
theorem spec_l11All.mono : ∀ a0 a1 a2 k, LeO (spec_l11All.f k a0 a1 a2) (spec_l11All.f (k + 1) a0 a1 a2) := by
 intro a0 es q k r h; unfold spec_l11All.f at h ⊢; (split at h); (case isFalse => cases h); rename_i hc; (have e1 : Cf.dfsB (spec_l11All.cnt (k + 1) a0 es q) a0.toNat 0 [] = Cf.dfsB (spec_l11All.cnt k a0 es q) a0.toNat 0 [] := by rw [Cf.dfs_box, Cf.dfs_box]; exact spec_l11All.box_congr fun v hv => by unfold spec_l11All.cnt; rw [spec_l11All.val_up k (hc.1.2 v hv).1]); have h0 : spec_l11All.ok0 (k + 1) a0 es q := ⟨hc.1.1, fun v hv => by rw [spec_l11All.val_up k (hc.1.2 v hv).1]; exact hc.1.2 v hv⟩; (have h1 : spec_l11All.ok1 (k + 1) a0 es q := by unfold spec_l11All.ok1; rw [e1]; exact fun x hx => by rw [spec_l11All.burn_up k (hc.2 x hx)]; exact hc.2 x hx); rw [if_pos ⟨h0, h1⟩, ← h, e1]; (congr 1); (refine List.filter_congr fun x hx => ?_); unfold spec_l11All.pr; rw [spec_l11All.burn_up k (hc.2 x hx)]
theorem spec_l11All.pick (k n : Nat) (q : Int) (A0 : Option Addr) (c0 : Nat) (es : List S57) (w0 : World) (hn : n ≤ 6) (hE : Kd.C k57 w0 A0 es.length es) (hc0 : es.length ≤ c0) (hV : ∀ v, v < n → (spec_Valence.f k (n : Int) es (v : Int)).isSome = true ∧ 0 ≤ (spec_Valence.f k (n : Int) es (v : Int)).getD 0 ∧ (spec_Valence.f k (n : Int) es (v : Int)).getD 0 ≤ 24) :
  ∀ (r : Nat) (s : List Int) (okP ok : Nat → Prop) (As : Option Addr) (cs : Nat) (u : Value) (out : List (List Int)) (w : World), s.length + r = n → (∀ t ∈ Cf.dfsB (spec_l11All.cnt k (n : Int) es q) r s.length s, (spec_l05Burn.f k (n : Int) es t q).isSome = true) → Kd.R (Kd.int .i64) 3 w w0.heap.size okP (.slice As s.length cs) s → (∀ k_, okP k_ → ¬ ok k_) → (∀ k_, w.heap.size ≤ k_ → ok k_) → Kd.S (Kd.slice 3 (Kd.int .i64)) 26 w w0.heap.size ok u out → Below w0.heap.size w0 w → out.length + (Cf.dfsB (spec_l11All.cnt k (n : Int) es q) r s.length s).length ≤ 200000000 →
  Calls Try.prog 58 #[.agg #[.int .i64 (n : Int), .slice A0 es.length c0], .int .i64 q, .slice As s.length cs, u] w fun e w' => (∃ v, e = .returned v ∧ Kd.S (Kd.slice 3 (Kd.int .i64)) 26 w' w0.heap.size (fun k_ => ok k_ ∨ okP k_) v (out ++ (Cf.dfsB (spec_l11All.cnt k (n : Int) es q) r s.length s).filter (spec_l11All.pr k (n : Int) es q))) ∧ Below w0.heap.size w0 w' ∧ Kept w w' ok := by
 have hu25 := Try.underlying25; have HE := Aside0.mk hE; have HC := Aside0.mk hc0; have HN := Aside0.mk hn; have HV := Aside0.mk hV; clear hE hc0 hn hV; intro r
 induction r with
 | zero =>
  intro s okP ok As cs u out w hlen hans hP hdis hfr hS hB hL; have HLEN := Aside0.mk hlen; have HANS := Aside0.mk hans; have HP := Aside0.mk hP; have HDIS := Aside0.mk hdis; have HFR := Aside0.mk hfr; have HS := Aside0.mk hS; have HB := Aside0.mk hB; have HL := Aside0.mk hL; (have hsb : (s.length : Int) ≤ 6 := by have := HN.out; omega); (have hsn : s.length = n := by have := HLEN.out; omega); have c0_ : ((s.length : Int) == (n : Int)) = true := beq_iff_eq.2 (by omega); obtain ⟨b, hb0⟩ := Option.isSome_iff_exists.1 (HANS.out s (by simp [Cf.dfsB])); have HBR := Aside0.mk hb0; have HPL := Aside0.mk (show (s.length : Int) = (n : Int) from by omega); (have hdf : (Cf.dfsB (spec_l11All.cnt k (n : Int) es q) 0 s.length s).filter (spec_l11All.pr k (n : Int) es q) = if (spec_l11All.pr k (n : Int) es q) s = true then [s] else [] := by show [s].filter _ = _; rw [List.filter_cons, List.filter_nil]); rw [hdf]; (have hpr : (spec_l11All.pr k (n : Int) es q) s = decide ((b.length : Int) = (n : Int)) := by unfold spec_l11All.pr; rw [hb0]); rw [hpr]; clear hlen hans hP hdis hfr hS hB hL hb0 hdf hpr hsn; go_enter Try.func58, Try.ntmps58; (go_wp2_with (first | ((with_reducible refine gate_dst (N := 4) rfl ?_); refine box_event ?hg (N := 4) ?hd (cs := #[.int .i64 (n : Int), .slice A0 es.length c0]) (t := 25) ?hr ?_; (case hd => rfl); (case hg => rfl); (case hr => exact zz9); intro gb hg w1 hbox hb; have HGB := Aside0.mk hg; have BG1 := Aside0.mk hbox; have HB1 := Aside0.mk hb; have hz0 : w1.cell? ⟨gb, 0, none⟩ = some (.int .i64 (n : Int)) := (blk_cell BG1.out 0).trans rfl; have hz1 : w1.cell? ⟨gb, 1, none⟩ = some (.slice A0 es.length c0) := (blk_cell BG1.out 1).trans rfl; clear hg hbox hb))); refine start_ (n := 8) (S := fun w' => w'.cell? ⟨gb, 0, none⟩ = some (.int .i64 (n : Int)) ∧ w'.cell? ⟨gb, 1, none⟩ = some (.slice A0 es.length c0)) (ds := []) (zM 8 0) (by kernel_rfl) rfl rfl ⟨hz0, hz1⟩ (fun hHeld => ?_); refine with_tabW spec_l11All.tab3 spec_l11All.bits3 (fun HT_ HW_ => ?_); have hdr : Below w1.heap.size w1 w1.drew := below_drew (Below.refl _ _); have BG2 := Aside0.mk (blk_below BG1.out hdr); have HB2 := Aside0.mk (below_step HB1.out hdr); generalize w1.drew = wd at BG2 HB2 hHeld ⊢; clear hdr hz0 hz1 BG1 HB1; refine zQ 1 19 (zM 8 2) ?_
  refine zQ 2 20 (zM 8 6) ?_
  refine zQ 5 23 (zM 8 38) ?_
  refine take_ (i := 0) (N := some 18) (v := ?_) (a' := ?_) (zM 8 39) rfl rfl (take_ofW HT_.out HW_.out (by kernel_rfl)) (fun _ _ _ h => h) (Or.inl ⟨by rfl, ?_⟩) hHeld ?_ ?_; rotate_left
  ·rintro w' ⟨s0, s1⟩; exact zzT
  rotate_left
  ·exact zzS
  refine take_ (i := 6) (N := some 24) (v := ?_) (a' := ?_) (zM 8 103) rfl rfl (take_ofW HT_.out HW_.out (by kernel_rfl)) (fun _ _ _ h => h) (Or.inl ⟨by rfl, ?_⟩) hHeld ?_ ?_; rotate_left
  ·rintro w' ⟨s0, s1⟩; exact zzT
  rotate_left
  ·exact zzS
  refine one_ (i := 3) (N := some 21) (zM 8 111) rfl rfl (one_of HT_.out (by kernel_rfl)) (by decide) (fun K hK => ?_); refine goes_ Try.func95 (by kernel_rfl) rfl #[.agg #[.int .i64 (n : Int), .slice A0 es.length c0], .slice As s.length cs, .int .i64 q] (by rfl) rfl rfl zz22 ?_; have hC2 := Kd.R_reads' (Kd.R_below HP.out HB2.out); refine (spec_l05Burn.calls k (n : Int) _ _ es _ _ s q b _ (Kd.C_below (Kd.C_below HE.out HB.out) HB2.out) HC.out hC2.2.2 hC2.2.1 HBR.out).mono ?_; rintro e w3 ⟨v3, rfl, hR, hb⟩; obtain ⟨Ab, cb, eb⟩ := Kd.R_slice hR; subst eb; have BG3 := Aside0.mk (blk_below BG2.out hb); have HB3 := Aside0.mk (below_step HB2.out hb); clear hR hb hC2 BG2 HB2; refine ⟨_, rfl, ?_⟩; refine hK.out _ _ ⟨(blk_cell BG3.out 0).trans rfl, (blk_cell BG3.out 1).trans rfl⟩ (fun hHeld => ?_); clear hK K; refine norm_ (a' := ?_) ?_ ?_; rotate_left
  ·show Act.put _ (some 21) _ = _; exact zzS
  refine zQ 4 22 (zM 8 127) ?_
  by_cases hbn : (b.length : Int) = (n : Int)
  ·(skip); have hbe : ((b.length : Int) == (n : Int)) = true := beq_iff_eq.2 hbn; refine zQ 7 25 (zM 8 255) ?_
   refine done_ (done_of HT_.out (by kernel_rfl)) ?_; (go_wp2_with (first | ((with_reducible refine gate_builtin (b := .append) (xs := #[.tmp 26, .tmp 28]) rfl ?_); at_builtin; refine Kd.S_append (Kd.slice 3 (Kd.int .i64)) (w0 := w0) w0.heap.size rfl (.tmp 26) (.tmp 28) 34 26 (.slice none 0 0) 24 rfl Try.underlying34 info26 rfl (by decide) (by omega) u out s [.slice As s.length cs] (fun k_ => ok k_ ∨ okP k_) okP rfl rfl (Kd.M_row (Kd.R_below HP.out HB3.out)) (fun k_ hk => ⟨Or.inr hk, fun e => HDIS.out k_ hk (HS.out.choose_spec.1 k_ e.symm)⟩) (fun k_ hk => Or.inl (HFR.out k_ (Nat.le_trans HB3.out.size hk))) (Kd.S_mono (Kd.S_below HS.out HB3.out) fun k_ hk => ⟨Or.inl hk, fun h => HDIS.out k_ h hk⟩) (below_step HB.out HB3.out) (below_size (below_step HB.out HB3.out)) (by have := HL.out; omega) ?_; intro vE wE ho hb hg hat; have HOE := Aside0.mk ho; have HBE := Aside0.mk hb; have HKE := Aside0.mk (Kept.of_grown hg (Kept.of_below HB3.out ok) (fun k_ e => Or.inl (HS.out.choose_spec.1 k_ e))); clear ho hb hg hat))); go_ret; refine ⟨⟨_, rfl, ?_⟩, HBE.out, HKE.out⟩; (first | rw [if_pos hbn] | rw [decide_eq_true hbn, if_pos rfl] | simp only [hbn, if_true, decide_true]); exact HOE.out
  ·have hbe : ((b.length : Int) == (n : Int)) = false := beq_eq_false_iff_ne.2 hbn; refine zQ 7 25 (zM 8 255) ?_
   refine done_ (done_of HT_.out (by kernel_rfl)) ?_; go_wp2; all_goals (go_ret; refine ⟨⟨_, rfl, ?_⟩, below_step HB.out HB3.out, Kept.of_below HB3.out _⟩; (first | rw [if_neg hbn, List.append_nil] | rw [decide_eq_false hbn, if_neg (by simp), List.append_nil] | rw [List.append_nil] | skip); exact Kd.S_mono (Kd.S_below HS.out HB3.out) fun k_ h => Or.inl h)
 | succ r ih =>
  intro s okP ok As cs u out w hlen hans hP hdis hfr hS hB hL; have HLEN := Aside0.mk hlen; have HANS := Aside0.mk hans; have HP := Aside0.mk hP; have HDIS := Aside0.mk hdis; have HFR := Aside0.mk hfr; have HS := Aside0.mk hS; have HB := Aside0.mk hB; have HL := Aside0.mk hL; (have hsb : (s.length : Int) ≤ 6 := by have := HN.out; omega); have IH := Aside0.mk ih; clear ih; (have hsn : s.length < n := by have := HLEN.out; omega); have c0_ : ((s.length : Int) == (n : Int)) = false := beq_eq_false_iff_ne.2 (by omega); obtain ⟨hm0, hm1, hm2⟩ := HV.out s.length hsn; obtain ⟨m, hm⟩ := Option.isSome_iff_exists.1 hm0; (have hcn : spec_l11All.cnt k (n : Int) es q s.length = if (s.length : Int) = q then 1 else (mx 1 m).toNat := by unfold spec_l11All.cnt; rw [hm]; rfl); rw [hm] at hm1 hm2; simp only [Option.getD_some] at hm1 hm2; have HM := Aside0.mk hm; obtain ⟨mo, hmo⟩ : ∃ x : Int, (if (1 : Int) < m then m else 1) = x := ⟨_, rfl⟩; have HMO := Aside0.mk (show mx 1 m = mo ∧ 1 ≤ mo ∧ mo ≤ 24 from ⟨hmo, by rw [← hmo]; split <;> omega, by rw [← hmo]; split <;> omega⟩); have hP := HP.out; clear hlen hans hP hdis hfr hS hB hL hm hm0 hm1 hm2 hsn; go_enter Try.func58, Try.ntmps58; (go_wp2_with (first | ((with_reducible refine gate_dst (N := 4) rfl ?_); refine box_event ?hg (N := 4) ?hd (cs := #[.int .i64 (n : Int), .slice A0 es.length c0]) (t := 25) ?hr ?_; (case hd => rfl); (case hg => rfl); (case hr => exact zz9); intro gb hg w1 hbox hb; have HGB := Aside0.mk hg; have BG1 := Aside0.mk hbox; have HB1 := Aside0.mk hb; have hz0 : w1.cell? ⟨gb, 0, none⟩ = some (.int .i64 (n : Int)) := (blk_cell BG1.out 0).trans rfl; have hz1 : w1.cell? ⟨gb, 1, none⟩ = some (.slice A0 es.length c0) := (blk_cell BG1.out 1).trans rfl; clear hg hbox hb))); refine (spec_Valence.calls k (n : Int) _ _ es (s.length : Int) m _ (Kd.C_below (Kd.C_below HE.out HB.out) HB1.out) HC.out HM.out).mono ?_; rintro e w2 ⟨rfl, hb⟩; have BG2 := Aside0.mk (blk_below BG1.out hb); have HB2 := Aside0.mk (below_step HB1.out hb); have HGW := Aside0.mk (show w.heap.size ≤ gb ∧ gb < w2.heap.size from ⟨by have := HGB.out; omega, blk_lt BG2.out⟩); clear hb hz0 hz1 BG1 HB1; by_cases hvq : (s.length : Int) = q
  ·have c4_ : ((s.length : Int) == q) = true := beq_iff_eq.2 hvq; have HCN := Aside0.mk (show spec_l11All.cnt k (n : Int) es q s.length = 1 from by rw [hcn, if_pos hvq]); (have hcn2 : (spec_l11All.cnt k (n : Int) es q s.length : Int) = 1 := by rw [HCN.out]; rfl); have HCN2 := Aside0.mk hcn2; have HCNB := Aside0.mk (show spec_l11All.cnt k (n : Int) es q s.length ≤ 24 from by have := HCN2.out; have := HMO.out; omega); clear hcn hcn2 hvq; (try go_wp2); (go_loopw [3, 11] (fun v3 v11 wr => ∃ j : Nat, v11 = .int .i64 (j : Int) ∧ Aside0 (j ≤ spec_l11All.cnt k (n : Int) es q s.length) ∧ Aside0 (Below w0.heap.size w0 wr ∧ wr.heap[gb]? = some (.cells #[.int .i64 (n : Int), .slice A0 es.length c0] 25 (0, 0))) ∧ Aside0 (Kd.S (Kd.slice 3 (Kd.int .i64)) 26 wr w0.heap.size (fun k_ => ok k_ ∧ k_ ≠ gb) v3 (out ++ (Cf.dfsJ (spec_l11All.cnt k (n : Int) es q) r s.length s j).filter (spec_l11All.pr k (n : Int) es q))) ∧ Aside0 (Kept w wr ok ∧ w2.heap.size ≤ wr.heap.size)) (fun _ v _ => spec_l11All.cnt k (n : Int) es q s.length - (intOf v).toNat)); case atStart => exact ⟨0, rfl, ⟨Nat.zero_le _⟩, ⟨below_step HB.out HB2.out, BG2.out⟩, ⟨by rw [Cf.dfsJ_zero, List.filter_nil, List.append_nil]; exact Kd.S_mono (Kd.S_below (Kd.S_bound HS.out) HB2.out) fun k_ hk => ⟨hk.1, by have := hk.2.2.1; have := HGW.out.1; omega⟩⟩, ⟨Kept.of_below HB2.out _, Nat.le_refl _⟩⟩
   case round =>
    obtain ⟨j, rfl, HJ, HBG, HSr, HKr⟩ := hrel; (have hjb : (j : Int) ≤ 24 := by have := HJ.out; have := HCNB.out; omega); by_cases hj : j < spec_l11All.cnt k (n : Int) es q s.length
    ·(obtain rfl : j = 0 := by have := HCN.out; omega); have HJN := Aside0.mk hj; clear hj; (try go_wp2); refine start_ (n := 11) (S := fun w' => w'.cell? ⟨gb, 0, none⟩ = some (.int .i64 (n : Int)) ∧ w'.cell? ⟨gb, 1, none⟩ = some (.slice A0 es.length c0)) (ds := []) (zM 11 0) (by kernel_rfl) rfl rfl ⟨(blk_cell HBG.out.2 0).trans rfl, (blk_cell HBG.out.2 1).trans rfl⟩ (fun hHeld => ?_); refine with_tabW spec_l11All.tab12 spec_l11All.bits12 (fun HT_ HW_ => ?_); have hdr : Below wr.heap.size wr wr.drew := below_drew (Below.refl _ _); have BGd := Aside0.mk (blk_below HBG.out.2 hdr); have HBd := Aside0.mk (below_step HBG.out.1 hdr); have HSd := Aside0.mk (Kd.S_below HSr.out hdr); have HKd := Aside0.mk (HKr.out.1.below hdr); have HZd := Aside0.mk (show w2.heap.size ≤ wr.drew.heap.size from HKr.out.2); generalize wr.drew = wd at BGd HBd HSd HKd HZd hHeld ⊢; have HPd := Aside0.mk (Kd.R_kept HP.out HKd.out fun k_ hk => HDIS.out k_ hk); clear hdr HBG HSr HKr; refine zQ 1 44 (zM 11 2) ?_
     refine zQ 3 46 (zM 11 10) ?_
     refine zQ 5 48 (zM 11 42) ?_
     refine zQ 8 51 (zM 11 298) ?_
     refine take_ (i := 0) (N := some 43) (v := ?_) (a' := ?_) (zM 11 299) rfl rfl (take_ofW HT_.out HW_.out (by kernel_rfl)) (fun _ _ _ h => h) (Or.inl ⟨by rfl, ?_⟩) hHeld ?_ ?_; rotate_left
     ·rintro w' ⟨s0, s1⟩; exact zzT
     rotate_left
     ·exact zzS
     refine two_ (i := 2) (j := 6) (Ni := some 45) (Nj := some 49) (zM 11 303) (zM 11 363) rfl rfl rfl rfl (two_of HT_.out (by kernel_rfl)) (by decide) (by decide) (fun K hK => ?_) (fun K hK => ?_)
     ·(skip); refine Kd.R_lit_step (w0 := wd) (Kd.int .i64) wd.heap.size 3 ?hg (N := 45) ?hd (xs := ([] : List Int)) (inner := []) (ok := fun _ => True) (okp := fun _ => True) ?hr ?hp (fun _ hk => hk) trivial (Below.refl _ _) (Nat.le_refl _) (by simp) ?_; (case hd => rfl); (case hg => rfl); (case hr => exact zz9); (case hp => exact (Reps.none _ _)); intro vA wA hoA hbA hg_ hnew_; have HOA := Aside0.mk hoA; have HBx := Aside0.mk hbA; clear hoA hbA hg_ hnew_; refine hK.out _ _ ⟨(blk_cell (blk_below BGd.out HBx.out) 0).trans rfl, (blk_cell (blk_below BGd.out HBx.out) 1).trans rfl⟩ (fun hHeld => ?_); clear hK K; refine norm_ (a' := ?_) ?_ ?_; rotate_left
      ·show Act.put _ (some 45) _ = _; exact zzS
      refine two_ (i := 4) (j := 6) (Ni := some 47) (Nj := some 49) (zM 11 319) (zM 11 367) rfl rfl rfl rfl (two_of HT_.out (by kernel_rfl)) (by decide) (by decide) (fun K hK => ?_) (fun K hK => ?_)
      ·(skip); have HRp := Aside0.mk (Kd.R_reads' (Kd.R_below HPd.out HBx.out)); refine Kd.R_append_rows_step (Kd.int .i64) (w0 := wd) wd.heap.size (by rfl) (.tmp 45) (.tmp 46) 26 3 (.int .i64 0) 8 rfl Try.underlying26 info3 rfl (by decide) (by omega) vA ([] : List Int) s _ _ _ (fun _ => True) (fun _ => False) rfl rfl HOA.out HRp.out.2.2 (fun _ _ h => h) (fun _ h => h.elim) (fun _ _ => trivial) HBx.out (below_size HBx.out) (by have := hsb; simp only [List.length_nil]; omega) ?_; intro vB wB hoB hbB hg_ hat_; rw [List.nil_append] at hoB; have HOB := Aside0.mk hoB; have HBx := Aside0.mk hbB; clear hoB hbB hg_ hat_; refine hK.out _ _ ⟨(blk_cell (blk_below BGd.out HBx.out) 0).trans rfl, (blk_cell (blk_below BGd.out HBx.out) 1).trans rfl⟩ (fun hHeld => ?_); clear hK K; refine norm_ (a' := ?_) ?_ ?_; rotate_left
       ·show Act.put _ (some 47) _ = _; exact zzS
       refine one_ (i := 6) (N := some 49) (zM 11 383) rfl rfl (one_of HT_.out (by kernel_rfl)) (by decide) (fun K hK => ?_); refine Kd.R_lit_step (w0 := wd) (Kd.int .i64) wd.heap.size 3 ?hg (N := 49) ?hd (xs := [(0 : Int)]) (inner := [.int .i64 (0 : Int)]) (ok := fun _ => True) (okp := fun _ => True) ?hr ?hp (fun _ hk => hk) trivial HBx.out (below_size HBx.out) (by simp) ?_; (case hd => rfl); (case hg => rfl); (case hr => exact zz9); (case hp => exact Kd.reps_scalar _); intro vX wX hoX hbX hg_ hnew_; have HOB := Aside0.mk (Kd.R_grown (ok := fun _ => True) HOB.out hg_ (fun k_ _ => by simp)); have HCx := Aside0.mk (Kd.R_tight rfl hoX); have HBx := Aside0.mk hbX; clear hoX hbX hg_ hnew_; refine hK.out _ _ ⟨(blk_cell (blk_below BGd.out HBx.out) 0).trans rfl, (blk_cell (blk_below BGd.out HBx.out) 1).trans rfl⟩ (fun hHeld => ?_); clear hK K; refine norm_ (a' := ?_) ?_ ?_; rotate_left
       ·show Act.put _ (some 49) _ = _; exact zzS
       obtain ⟨AX, cX, eX⟩ := Kd.R_slice HCx.out; subst eX; refine one_ (i := 7) (N := some 50) (zM 11 511) rfl rfl (one_of HT_.out (by kernel_rfl)) (by decide) (fun K hK => ?_); refine Kd.R_append_rows_step (Kd.int .i64) (w0 := wd) wd.heap.size (by rfl) (.tmp 47) (.tmp 49) 26 3 (.int .i64 0) 8 rfl Try.underlying26 info3 rfl (by decide) (by omega) vB s [(0 : Int)] _ _ _ (fun _ => True) (fun _ => False) rfl rfl HOB.out (Kd.R_reads' HCx.out).2.2 (fun _ _ h => h) (fun _ h => h.elim) (fun _ _ => trivial) HBx.out (below_size HBx.out) (by have := hsb; simp only [List.length_cons, List.length_nil]; omega) ?_; intro vD wD hoD hbD hg_ hat_; have HBx := Aside0.mk hbD; have hlD : (s ++ [(0 : Int)]).length = s.length + 1 := List.length_append; obtain ⟨g, cD, eD, hg1, hg2, _⟩ := Kd.R_form hoD (by omega); subst eD; have HOD := Aside0.mk hoD; have HGD := Aside0.mk (show wd.heap.size ≤ g ∧ g < wD.heap.size from ⟨hg1, hg2⟩); clear hoD hbD hg_ hat_ hg1 hg2; refine hK.out _ _ ⟨(blk_cell (blk_below BGd.out HBx.out) 0).trans rfl, (blk_cell (blk_below BGd.out HBx.out) 1).trans rfl⟩ (fun hHeld => ?_); clear hK K; refine norm_ (a' := ?_) ?_ ?_; rotate_left
       ·show Act.put _ (some 50) _ = _; exact zzS
       refine one_ (i := 9) (N := some 52) (zM 11 1023) rfl rfl (one_of HT_.out (by kernel_rfl)) (by decide) (fun K hK => ?_); refine goes_ Try.func58 (by kernel_rfl) rfl #[.agg #[.int .i64 (n : Int), .slice A0 es.length c0], .int .i64 q, .slice (some ⟨g, 0, none⟩) (s ++ [(0 : Int)]).length cD, u3] (by rfl) rfl rfl zz22 ?_; have hTD := Kd.R_lower (Kd.R_tight rfl HOD.out) (below_size HBd.out); have h_ := IH.out (s ++ [(0 : Int)]) (fun k_ => some k_ = (Value.slice (some ⟨g, 0, none⟩) (s ++ [(0 : Int)]).length cD).ownBlock) (fun k_ => (ok k_ ∧ k_ ≠ gb) ∧ k_ ≠ g) (some ⟨g, 0, none⟩) cD u3 (out ++ (Cf.dfsJ (spec_l11All.cnt k (n : Int) es q) r s.length s 0).filter (spec_l11All.pr k (n : Int) es q)) wD ?i1_1 ?i2_1 hTD ?i4_1 ?i5_1 ?i6_1 (below_step HBd.out HBx.out) ?i8_1; (case i1_1 => rw [hlD]; have := HLEN.out; omega); (case i2_1 => rw [hlD]; exact fun t ht => HANS.out t (Cf.dfs_sub _ _ _ _ HJN.out ht)); (case i4_1 => exact fun k_ hk h => h.2 (by simpa [Value.ownBlock] using hk)); (case i5_1 => exact fun k_ hk => ⟨⟨HFR.out k_ zz58, by have := HGW.out.2; have := HZd.out; have := HBx.out.size; omega⟩, by have := HGD.out; omega⟩); (case i6_1 => exact Kd.S_mono (Kd.S_below (Kd.S_bound HSd.out) HBx.out) fun k_ hk => ⟨hk.1, by have := hk.2.2.1; have := HGD.out; omega⟩); (case i8_1 => rw [hlD, List.length_append]; have h1 : (Cf.dfsJ (spec_l11All.cnt k (n : Int) es q) r s.length s 0).length + (Cf.dfsB (spec_l11All.cnt k (n : Int) es q) r (s.length + 1) (s ++ [(0 : Int)])).length ≤ (Cf.dfsB (spec_l11All.cnt k (n : Int) es q) (r + 1) s.length s).length := Cf.dfsJ_len (spec_l11All.cnt k (n : Int) es q) r s.length s HJN.out; have h2 := List.length_filter_le (spec_l11All.pr k (n : Int) es q) (Cf.dfsJ (spec_l11All.cnt k (n : Int) es q) r s.length s 0); have h3 := HL.out; omega); rw [hlD] at h_; (try rw [hlD]); refine h_.mono ?_; rintro e w5 ⟨⟨v5, rfl, hS5⟩, hB5, hK5⟩; have BG5 := Aside0.mk (blk_kept (blk_below BGd.out HBx.out) hK5 (fun h => h.1.2 rfl)); have HS5 := Aside0.mk hS5; have HB5 := Aside0.mk hB5; have HK5 := Aside0.mk (show Kept w w5 ok ∧ w2.heap.size ≤ w5.heap.size from ⟨(HKd.out.below HBx.out).then_ hK5 (fun k_ h => Or.inl h.1.1), by have := hK5.1; have := HBx.out.size; have := HZd.out; omega⟩); clear hS5 hB5 hK5 h_ hTD; refine ⟨_, rfl, ?_⟩; refine hK.out _ _ ⟨(blk_cell BG5.out 0).trans rfl, (blk_cell BG5.out 1).trans rfl⟩ (fun hHeld => ?_); clear hK K; refine norm_ (a' := ?_) ?_ ?_; rotate_left
       ·show Act.put _ (some 52) _ = _; exact zzS
       refine zQ 10 3 (zM 11 2047) ?_
       refine done_ (done_of HT_.out (by kernel_rfl)) ?_; (try go_wp2); go_roundw
       case rel =>
        refine ⟨0 + 1, by go_num, ⟨HJN.out⟩, ⟨HB5.out, BG5.out⟩, ⟨?_⟩, HK5⟩; rw [Cf.dfsJ_succ, List.filter_append, ← List.append_assoc]; (refine Kd.S_mono HS5.out fun k_ h => ?_); rcases h with h | h
        ·exact h.1
        ·(have e : k_ = g := by simpa [Value.ownBlock] using h); exact ⟨HFR.out k_ (by have := HKd.out.1; have := HGD.out; omega), by have := HGW.out.2; have := HZd.out; have := HGD.out; omega⟩
       case measure =>
        have := HJN.out; first | (simp [intOf]; done) | (simp [intOf]; omega)
      ·have HOA0 := HOA; refine Kd.R_lit_step (w0 := wd) (Kd.int .i64) wd.heap.size 3 ?hg (N := 49) ?hd (xs := [(0 : Int)]) (inner := [.int .i64 (0 : Int)]) (ok := fun _ => True) (okp := fun _ => True) ?hr ?hp (fun _ hk => hk) trivial HBx.out (below_size HBx.out) (by simp) ?_; (case hd => rfl); (case hg => rfl); (case hr => exact zz9); (case hp => exact Kd.reps_scalar _); intro vX wX hoX hbX hg_ hnew_; have HOA := Aside0.mk (Kd.R_grown (ok := fun _ => True) HOA.out hg_ (fun k_ _ => by simp)); have HCx := Aside0.mk (Kd.R_tight rfl hoX); have HBx := Aside0.mk hbX; have HNE := Aside0.mk (show vX.ownBlock ≠ vA.ownBlock from by obtain ⟨b_, hb1, hb2⟩ := hnew_; intro e; have := Kd.R_lt HOA0.out b_ (e.symm.trans hb1); omega); clear hoX hbX hg_ hnew_; refine hK.out _ _ ⟨(blk_cell (blk_below BGd.out HBx.out) 0).trans rfl, (blk_cell (blk_below BGd.out HBx.out) 1).trans rfl⟩ (fun hHeld => ?_); clear hK K; refine norm_ (a' := ?_) ?_ ?_; rotate_left
       ·show Act.put _ (some 49) _ = _; exact zzS
       refine one_ (i := 4) (N := some 47) (zM 11 383) rfl rfl (one_of HT_.out (by kernel_rfl)) (by decide) (fun K hK => ?_); have HRp := Aside0.mk (Kd.R_reads' (Kd.R_below HPd.out HBx.out)); refine Kd.R_append_rows_step (Kd.int .i64) (w0 := wd) wd.heap.size (by rfl) (.tmp 45) (.tmp 46) 26 3 (.int .i64 0) 8 rfl Try.underlying26 info3 rfl (by decide) (by omega) vA ([] : List Int) s _ _ _ (fun _ => True) (fun _ => False) rfl rfl HOA.out HRp.out.2.2 (fun _ _ h => h) (fun _ h => h.elim) (fun _ _ => trivial) HBx.out (below_size HBx.out) (by have := hsb; simp only [List.length_nil]; omega) ?_; intro vB wB hoB hbB hg_ hat_; rw [List.nil_append] at hoB; have HCx := Aside0.mk (Kd.R_step HCx.out fun k_ hk hlt => hg_.block k_ hlt (by rw [hk]; exact fun e => HNE.out e)); have HOB := Aside0.mk hoB; have HBx := Aside0.mk hbB; clear hoB hbB hg_ hat_; refine hK.out _ _ ⟨(blk_cell (blk_below BGd.out HBx.out) 0).trans rfl, (blk_cell (blk_below BGd.out HBx.out) 1).trans rfl⟩ (fun hHeld => ?_); clear hK K; refine norm_ (a' := ?_) ?_ ?_; rotate_left
       ·show Act.put _ (some 47) _ = _; exact zzS
       obtain ⟨AX, cX, eX⟩ := Kd.R_slice HCx.out; subst eX; refine one_ (i := 7) (N := some 50) (zM 11 511) rfl rfl (one_of HT_.out (by kernel_rfl)) (by decide) (fun K hK => ?_); refine Kd.R_append_rows_step (Kd.int .i64) (w0 := wd) wd.heap.size (by rfl) (.tmp 47) (.tmp 49) 26 3 (.int .i64 0) 8 rfl Try.underlying26 info3 rfl (by decide) (by omega) vB s [(0 : Int)] _ _ _ (fun _ => True) (fun _ => False) rfl rfl HOB.out (Kd.R_reads' HCx.out).2.2 (fun _ _ h => h) (fun _ h => h.elim) (fun _ _ => trivial) HBx.out (below_size HBx.out) (by have := hsb; simp only [List.length_cons, List.length_nil]; omega) ?_; intro vD wD hoD hbD hg_ hat_; have HBx := Aside0.mk hbD; have hlD : (s ++ [(0 : Int)]).length = s.length + 1 := List.length_append; obtain ⟨g, cD, eD, hg1, hg2, _⟩ := Kd.R_form hoD (by omega); subst eD; have HOD := Aside0.mk hoD; have HGD := Aside0.mk (show wd.heap.size ≤ g ∧ g < wD.heap.size from ⟨hg1, hg2⟩); clear hoD hbD hg_ hat_ hg1 hg2; refine hK.out _ _ ⟨(blk_cell (blk_below BGd.out HBx.out) 0).trans rfl, (blk_cell (blk_below BGd.out HBx.out) 1).trans rfl⟩ (fun hHeld => ?_); clear hK K; refine norm_ (a' := ?_) ?_ ?_; rotate_left
       ·show Act.put _ (some 50) _ = _; exact zzS
       refine one_ (i := 9) (N := some 52) (zM 11 1023) rfl rfl (one_of HT_.out (by kernel_rfl)) (by decide) (fun K hK => ?_); refine goes_ Try.func58 (by kernel_rfl) rfl #[.agg #[.int .i64 (n : Int), .slice A0 es.length c0], .int .i64 q, .slice (some ⟨g, 0, none⟩) (s ++ [(0 : Int)]).length cD, u3] (by rfl) rfl rfl zz22 ?_; have hTD := Kd.R_lower (Kd.R_tight rfl HOD.out) (below_size HBd.out); have h_ := IH.out (s ++ [(0 : Int)]) (fun k_ => some k_ = (Value.slice (some ⟨g, 0, none⟩) (s ++ [(0 : Int)]).length cD).ownBlock) (fun k_ => (ok k_ ∧ k_ ≠ gb) ∧ k_ ≠ g) (some ⟨g, 0, none⟩) cD u3 (out ++ (Cf.dfsJ (spec_l11All.cnt k (n : Int) es q) r s.length s 0).filter (spec_l11All.pr k (n : Int) es q)) wD ?i1_2 ?i2_2 hTD ?i4_2 ?i5_2 ?i6_2 (below_step HBd.out HBx.out) ?i8_2; (case i1_2 => rw [hlD]; have := HLEN.out; omega); (case i2_2 => rw [hlD]; exact fun t ht => HANS.out t (Cf.dfs_sub _ _ _ _ HJN.out ht)); (case i4_2 => exact fun k_ hk h => h.2 (by simpa [Value.ownBlock] using hk)); (case i5_2 => exact fun k_ hk => ⟨⟨HFR.out k_ zz58, by have := HGW.out.2; have := HZd.out; have := HBx.out.size; omega⟩, by have := HGD.out; omega⟩); (case i6_2 => exact Kd.S_mono (Kd.S_below (Kd.S_bound HSd.out) HBx.out) fun k_ hk => ⟨hk.1, by have := hk.2.2.1; have := HGD.out; omega⟩); (case i8_2 => rw [hlD, List.length_append]; have h1 : (Cf.dfsJ (spec_l11All.cnt k (n : Int) es q) r s.length s 0).length + (Cf.dfsB (spec_l11All.cnt k (n : Int) es q) r (s.length + 1) (s ++ [(0 : Int)])).length ≤ (Cf.dfsB (spec_l11All.cnt k (n : Int) es q) (r + 1) s.length s).length := Cf.dfsJ_len (spec_l11All.cnt k (n : Int) es q) r s.length s HJN.out; have h2 := List.length_filter_le (spec_l11All.pr k (n : Int) es q) (Cf.dfsJ (spec_l11All.cnt k (n : Int) es q) r s.length s 0); have h3 := HL.out; omega); rw [hlD] at h_; (try rw [hlD]); refine h_.mono ?_; rintro e w5 ⟨⟨v5, rfl, hS5⟩, hB5, hK5⟩; have BG5 := Aside0.mk (blk_kept (blk_below BGd.out HBx.out) hK5 (fun h => h.1.2 rfl)); have HS5 := Aside0.mk hS5; have HB5 := Aside0.mk hB5; have HK5 := Aside0.mk (show Kept w w5 ok ∧ w2.heap.size ≤ w5.heap.size from ⟨(HKd.out.below HBx.out).then_ hK5 (fun k_ h => Or.inl h.1.1), by have := hK5.1; have := HBx.out.size; have := HZd.out; omega⟩); clear hS5 hB5 hK5 h_ hTD; refine ⟨_, rfl, ?_⟩; refine hK.out _ _ ⟨(blk_cell BG5.out 0).trans rfl, (blk_cell BG5.out 1).trans rfl⟩ (fun hHeld => ?_); clear hK K; refine norm_ (a' := ?_) ?_ ?_; rotate_left
       ·show Act.put _ (some 52) _ = _; exact zzS
       refine zQ 10 3 (zM 11 2047) ?_
       refine done_ (done_of HT_.out (by kernel_rfl)) ?_; (try go_wp2); go_roundw
       case rel =>
        refine ⟨0 + 1, by go_num, ⟨HJN.out⟩, ⟨HB5.out, BG5.out⟩, ⟨?_⟩, HK5⟩; rw [Cf.dfsJ_succ, List.filter_append, ← List.append_assoc]; (refine Kd.S_mono HS5.out fun k_ h => ?_); rcases h with h | h
        ·exact h.1
        ·(have e : k_ = g := by simpa [Value.ownBlock] using h); exact ⟨HFR.out k_ (by have := HKd.out.1; have := HGD.out; omega), by have := HGW.out.2; have := HZd.out; have := HGD.out; omega⟩
       case measure =>
        have := HJN.out; first | (simp [intOf]; done) | (simp [intOf]; omega)
     ·(skip); refine Kd.R_lit_step (w0 := wd) (Kd.int .i64) wd.heap.size 3 ?hg (N := 49) ?hd (xs := [(0 : Int)]) (inner := [.int .i64 (0 : Int)]) (ok := fun _ => True) (okp := fun _ => True) ?hr ?hp (fun _ hk => hk) trivial (Below.refl _ _) (Nat.le_refl _) (by simp) ?_; (case hd => rfl); (case hg => rfl); (case hr => exact zz9); (case hp => exact Kd.reps_scalar _); intro vX wX hoX hbX hg_ hnew_; have HCx := Aside0.mk (Kd.R_tight rfl hoX); have HBx := Aside0.mk hbX; clear hoX hbX hg_ hnew_; refine hK.out _ _ ⟨(blk_cell (blk_below BGd.out HBx.out) 0).trans rfl, (blk_cell (blk_below BGd.out HBx.out) 1).trans rfl⟩ (fun hHeld => ?_); clear hK K; refine norm_ (a' := ?_) ?_ ?_; rotate_left
      ·show Act.put _ (some 49) _ = _; exact zzS
      refine one_ (i := 2) (N := some 45) (zM 11 367) rfl rfl (one_of HT_.out (by kernel_rfl)) (by decide) (fun K hK => ?_); (skip); refine Kd.R_lit_step (w0 := wd) (Kd.int .i64) wd.heap.size 3 ?hg (N := 45) ?hd (xs := ([] : List Int)) (inner := []) (ok := fun _ => True) (okp := fun _ => True) ?hr ?hp (fun _ hk => hk) trivial HBx.out (below_size HBx.out) (by simp) ?_; (case hd => rfl); (case hg => rfl); (case hr => exact zz9); (case hp => exact (Reps.none _ _)); intro vA wA hoA hbA hg_ hnew_; have HNE := Aside0.mk (show vX.ownBlock ≠ vA.ownBlock from by obtain ⟨b_, hb1, hb2⟩ := hnew_; intro e; have := Kd.R_lt HCx.out b_ (e.trans hb1); omega); have HCx := Aside0.mk (Kd.R_grown (ok := fun k_ => some k_ = vX.ownBlock) HCx.out hg_ (fun k_ _ => by simp)); have HOA := Aside0.mk hoA; have HBx := Aside0.mk hbA; clear hoA hbA hg_ hnew_; refine hK.out _ _ ⟨(blk_cell (blk_below BGd.out HBx.out) 0).trans rfl, (blk_cell (blk_below BGd.out HBx.out) 1).trans rfl⟩ (fun hHeld => ?_); clear hK K; refine norm_ (a' := ?_) ?_ ?_; rotate_left
      ·show Act.put _ (some 45) _ = _; exact zzS
      refine one_ (i := 4) (N := some 47) (zM 11 383) rfl rfl (one_of HT_.out (by kernel_rfl)) (by decide) (fun K hK => ?_); have HRp := Aside0.mk (Kd.R_reads' (Kd.R_below HPd.out HBx.out)); refine Kd.R_append_rows_step (Kd.int .i64) (w0 := wd) wd.heap.size (by rfl) (.tmp 45) (.tmp 46) 26 3 (.int .i64 0) 8 rfl Try.underlying26 info3 rfl (by decide) (by omega) vA ([] : List Int) s _ _ _ (fun _ => True) (fun _ => False) rfl rfl HOA.out HRp.out.2.2 (fun _ _ h => h) (fun _ h => h.elim) (fun _ _ => trivial) HBx.out (below_size HBx.out) (by have := hsb; simp only [List.length_nil]; omega) ?_; intro vB wB hoB hbB hg_ hat_; rw [List.nil_append] at hoB; have HCx := Aside0.mk (Kd.R_step HCx.out fun k_ hk hlt => hg_.block k_ hlt (by rw [hk]; exact fun e => HNE.out e)); have HOB := Aside0.mk hoB; have HBx := Aside0.mk hbB; clear hoB hbB hg_ hat_; refine hK.out _ _ ⟨(blk_cell (blk_below BGd.out HBx.out) 0).trans rfl, (blk_cell (blk_below BGd.out HBx.out) 1).trans rfl⟩ (fun hHeld => ?_); clear hK K; refine norm_ (a' := ?_) ?_ ?_; rotate_left
      ·show Act.put _ (some 47) _ = _; exact zzS
      obtain ⟨AX, cX, eX⟩ := Kd.R_slice HCx.out; subst eX; refine one_ (i := 7) (N := some 50) (zM 11 511) rfl rfl (one_of HT_.out (by kernel_rfl)) (by decide) (fun K hK => ?_); refine Kd.R_append_rows_step (Kd.int .i64) (w0 := wd) wd.heap.size (by rfl) (.tmp 47) (.tmp 49) 26 3 (.int .i64 0) 8 rfl Try.underlying26 info3 rfl (by decide) (by omega) vB s [(0 : Int)] _ _ _ (fun _ => True) (fun _ => False) rfl rfl HOB.out (Kd.R_reads' HCx.out).2.2 (fun _ _ h => h) (fun _ h => h.elim) (fun _ _ => trivial) HBx.out (below_size HBx.out) (by have := hsb; simp only [List.length_cons, List.length_nil]; omega) ?_; intro vD wD hoD hbD hg_ hat_; have HBx := Aside0.mk hbD; have hlD : (s ++ [(0 : Int)]).length = s.length + 1 := List.length_append; obtain ⟨g, cD, eD, hg1, hg2, _⟩ := Kd.R_form hoD (by omega); subst eD; have HOD := Aside0.mk hoD; have HGD := Aside0.mk (show wd.heap.size ≤ g ∧ g < wD.heap.size from ⟨hg1, hg2⟩); clear hoD hbD hg_ hat_ hg1 hg2; refine hK.out _ _ ⟨(blk_cell (blk_below BGd.out HBx.out) 0).trans rfl, (blk_cell (blk_below BGd.out HBx.out) 1).trans rfl⟩ (fun hHeld => ?_); clear hK K; refine norm_ (a' := ?_) ?_ ?_; rotate_left
      ·show Act.put _ (some 50) _ = _; exact zzS
      refine one_ (i := 9) (N := some 52) (zM 11 1023) rfl rfl (one_of HT_.out (by kernel_rfl)) (by decide) (fun K hK => ?_); refine goes_ Try.func58 (by kernel_rfl) rfl #[.agg #[.int .i64 (n : Int), .slice A0 es.length c0], .int .i64 q, .slice (some ⟨g, 0, none⟩) (s ++ [(0 : Int)]).length cD, u3] (by rfl) rfl rfl zz22 ?_; have hTD := Kd.R_lower (Kd.R_tight rfl HOD.out) (below_size HBd.out); have h_ := IH.out (s ++ [(0 : Int)]) (fun k_ => some k_ = (Value.slice (some ⟨g, 0, none⟩) (s ++ [(0 : Int)]).length cD).ownBlock) (fun k_ => (ok k_ ∧ k_ ≠ gb) ∧ k_ ≠ g) (some ⟨g, 0, none⟩) cD u3 (out ++ (Cf.dfsJ (spec_l11All.cnt k (n : Int) es q) r s.length s 0).filter (spec_l11All.pr k (n : Int) es q)) wD ?i1_3 ?i2_3 hTD ?i4_3 ?i5_3 ?i6_3 (below_step HBd.out HBx.out) ?i8_3; (case i1_3 => rw [hlD]; have := HLEN.out; omega); (case i2_3 => rw [hlD]; exact fun t ht => HANS.out t (Cf.dfs_sub _ _ _ _ HJN.out ht)); (case i4_3 => exact fun k_ hk h => h.2 (by simpa [Value.ownBlock] using hk)); (case i5_3 => exact fun k_ hk => ⟨⟨HFR.out k_ zz58, by have := HGW.out.2; have := HZd.out; have := HBx.out.size; omega⟩, by have := HGD.out; omega⟩); (case i6_3 => exact Kd.S_mono (Kd.S_below (Kd.S_bound HSd.out) HBx.out) fun k_ hk => ⟨hk.1, by have := hk.2.2.1; have := HGD.out; omega⟩); (case i8_3 => rw [hlD, List.length_append]; have h1 : (Cf.dfsJ (spec_l11All.cnt k (n : Int) es q) r s.length s 0).length + (Cf.dfsB (spec_l11All.cnt k (n : Int) es q) r (s.length + 1) (s ++ [(0 : Int)])).length ≤ (Cf.dfsB (spec_l11All.cnt k (n : Int) es q) (r + 1) s.length s).length := Cf.dfsJ_len (spec_l11All.cnt k (n : Int) es q) r s.length s HJN.out; have h2 := List.length_filter_le (spec_l11All.pr k (n : Int) es q) (Cf.dfsJ (spec_l11All.cnt k (n : Int) es q) r s.length s 0); have h3 := HL.out; omega); rw [hlD] at h_; (try rw [hlD]); refine h_.mono ?_; rintro e w5 ⟨⟨v5, rfl, hS5⟩, hB5, hK5⟩; have BG5 := Aside0.mk (blk_kept (blk_below BGd.out HBx.out) hK5 (fun h => h.1.2 rfl)); have HS5 := Aside0.mk hS5; have HB5 := Aside0.mk hB5; have HK5 := Aside0.mk (show Kept w w5 ok ∧ w2.heap.size ≤ w5.heap.size from ⟨(HKd.out.below HBx.out).then_ hK5 (fun k_ h => Or.inl h.1.1), by have := hK5.1; have := HBx.out.size; have := HZd.out; omega⟩); clear hS5 hB5 hK5 h_ hTD; refine ⟨_, rfl, ?_⟩; refine hK.out _ _ ⟨(blk_cell BG5.out 0).trans rfl, (blk_cell BG5.out 1).trans rfl⟩ (fun hHeld => ?_); clear hK K; refine norm_ (a' := ?_) ?_ ?_; rotate_left
      ·show Act.put _ (some 52) _ = _; exact zzS
      refine zQ 10 3 (zM 11 2047) ?_
      refine done_ (done_of HT_.out (by kernel_rfl)) ?_; (try go_wp2); go_roundw
      case rel =>
       refine ⟨0 + 1, by go_num, ⟨HJN.out⟩, ⟨HB5.out, BG5.out⟩, ⟨?_⟩, HK5⟩; rw [Cf.dfsJ_succ, List.filter_append, ← List.append_assoc]; (refine Kd.S_mono HS5.out fun k_ h => ?_); rcases h with h | h
       ·exact h.1
       ·(have e : k_ = g := by simpa [Value.ownBlock] using h); exact ⟨HFR.out k_ (by have := HKd.out.1; have := HGD.out; omega), by have := HGW.out.2; have := HZd.out; have := HGD.out; omega⟩
      case measure =>
       have := HJN.out; first | (simp [intOf]; done) | (simp [intOf]; omega)
    ·have hj2 := HJ.out; (have hjn : j = spec_l11All.cnt k (n : Int) es q s.length := by have := HJ.out; omega); (obtain rfl : j = 1 := by rw [hjn]; exact HCN.out); have HJE := Aside0.mk hjn; clear hj hjn; go_wp2; go_ret; refine ⟨⟨_, rfl, ?_⟩, HBG.out.1, HKr.out.1⟩; have hS := HSr.out; rw [HJE.out, Cf.dfsJ_all] at hS; exact Kd.S_mono hS fun k_ h => Or.inl h.1
  ·have c4_ : ((s.length : Int) == q) = false := beq_eq_false_iff_ne.2 hvq; have HCN := Aside0.mk (show spec_l11All.cnt k (n : Int) es q s.length = mo.toNat from by rw [hcn, if_neg hvq, HMO.out.1]); (have hcn2 : (spec_l11All.cnt k (n : Int) es q s.length : Int) = mo := by rw [HCN.out]; have := HMO.out; omega); have HCN2 := Aside0.mk hcn2; have HCNB := Aside0.mk (show spec_l11All.cnt k (n : Int) es q s.length ≤ 24 from by have := HCN2.out; have := HMO.out; omega); clear hcn hcn2 hvq; (try go_wp2); (go_loopw [3, 11] (fun v3 v11 wr => ∃ j : Nat, v11 = .int .i64 (j : Int) ∧ Aside0 (j ≤ spec_l11All.cnt k (n : Int) es q s.length) ∧ Aside0 (Below w0.heap.size w0 wr ∧ wr.heap[gb]? = some (.cells #[.int .i64 (n : Int), .slice A0 es.length c0] 25 (0, 0))) ∧ Aside0 (Kd.S (Kd.slice 3 (Kd.int .i64)) 26 wr w0.heap.size (fun k_ => ok k_ ∧ k_ ≠ gb) v3 (out ++ (Cf.dfsJ (spec_l11All.cnt k (n : Int) es q) r s.length s j).filter (spec_l11All.pr k (n : Int) es q))) ∧ Aside0 (Kept w wr ok ∧ w2.heap.size ≤ wr.heap.size)) (fun _ v _ => spec_l11All.cnt k (n : Int) es q s.length - (intOf v).toNat)); case atStart => exact ⟨0, rfl, ⟨Nat.zero_le _⟩, ⟨below_step HB.out HB2.out, BG2.out⟩, ⟨by rw [Cf.dfsJ_zero, List.filter_nil, List.append_nil]; exact Kd.S_mono (Kd.S_below (Kd.S_bound HS.out) HB2.out) fun k_ hk => ⟨hk.1, by have := hk.2.2.1; have := HGW.out.1; omega⟩⟩, ⟨Kept.of_below HB2.out _, Nat.le_refl _⟩⟩
   case round =>
    obtain ⟨j, rfl, HJ, HBG, HSr, HKr⟩ := hrel; (have hjb : (j : Int) ≤ 24 := by have := HJ.out; have := HCNB.out; omega); by_cases hj : j < spec_l11All.cnt k (n : Int) es q s.length
    ·have d0 : decide ((j : Int) < mo) = true := decide_eq_true (by have := HCN2.out; omega); have HJN := Aside0.mk hj; clear hj; (try go_wp2); refine start_ (n := 11) (S := fun w' => w'.cell? ⟨gb, 0, none⟩ = some (.int .i64 (n : Int)) ∧ w'.cell? ⟨gb, 1, none⟩ = some (.slice A0 es.length c0)) (ds := []) (zM 11 0) (by kernel_rfl) rfl rfl ⟨(blk_cell HBG.out.2 0).trans rfl, (blk_cell HBG.out.2 1).trans rfl⟩ (fun hHeld => ?_); refine with_tabW spec_l11All.tab12 spec_l11All.bits12 (fun HT_ HW_ => ?_); have hdr : Below wr.heap.size wr wr.drew := below_drew (Below.refl _ _); have BGd := Aside0.mk (blk_below HBG.out.2 hdr); have HBd := Aside0.mk (below_step HBG.out.1 hdr); have HSd := Aside0.mk (Kd.S_below HSr.out hdr); have HKd := Aside0.mk (HKr.out.1.below hdr); have HZd := Aside0.mk (show w2.heap.size ≤ wr.drew.heap.size from HKr.out.2); generalize wr.drew = wd at BGd HBd HSd HKd HZd hHeld ⊢; have HPd := Aside0.mk (Kd.R_kept HP.out HKd.out fun k_ hk => HDIS.out k_ hk); clear hdr HBG HSr HKr; refine zQ 1 44 (zM 11 2) ?_
     refine zQ 3 46 (zM 11 10) ?_
     refine zQ 5 48 (zM 11 42) ?_
     refine zQ 8 51 (zM 11 298) ?_
     refine take_ (i := 0) (N := some 43) (v := ?_) (a' := ?_) (zM 11 299) rfl rfl (take_ofW HT_.out HW_.out (by kernel_rfl)) (fun _ _ _ h => h) (Or.inl ⟨by rfl, ?_⟩) hHeld ?_ ?_; rotate_left
     ·rintro w' ⟨s0, s1⟩; exact zzT
     rotate_left
     ·exact zzS
     refine two_ (i := 2) (j := 6) (Ni := some 45) (Nj := some 49) (zM 11 303) (zM 11 363) rfl rfl rfl rfl (two_of HT_.out (by kernel_rfl)) (by decide) (by decide) (fun K hK => ?_) (fun K hK => ?_)
     ·(skip); refine Kd.R_lit_step (w0 := wd) (Kd.int .i64) wd.heap.size 3 ?hg (N := 45) ?hd (xs := ([] : List Int)) (inner := []) (ok := fun _ => True) (okp := fun _ => True) ?hr ?hp (fun _ hk => hk) trivial (Below.refl _ _) (Nat.le_refl _) (by simp) ?_; (case hd => rfl); (case hg => rfl); (case hr => exact zz9); (case hp => exact (Reps.none _ _)); intro vA wA hoA hbA hg_ hnew_; have HOA := Aside0.mk hoA; have HBx := Aside0.mk hbA; clear hoA hbA hg_ hnew_; refine hK.out _ _ ⟨(blk_cell (blk_below BGd.out HBx.out) 0).trans rfl, (blk_cell (blk_below BGd.out HBx.out) 1).trans rfl⟩ (fun hHeld => ?_); clear hK K; refine norm_ (a' := ?_) ?_ ?_; rotate_left
      ·show Act.put _ (some 45) _ = _; exact zzS
      refine two_ (i := 4) (j := 6) (Ni := some 47) (Nj := some 49) (zM 11 319) (zM 11 367) rfl rfl rfl rfl (two_of HT_.out (by kernel_rfl)) (by decide) (by decide) (fun K hK => ?_) (fun K hK => ?_)
      ·(skip); have HRp := Aside0.mk (Kd.R_reads' (Kd.R_below HPd.out HBx.out)); refine Kd.R_append_rows_step (Kd.int .i64) (w0 := wd) wd.heap.size (by rfl) (.tmp 45) (.tmp 46) 26 3 (.int .i64 0) 8 rfl Try.underlying26 info3 rfl (by decide) (by omega) vA ([] : List Int) s _ _ _ (fun _ => True) (fun _ => False) rfl rfl HOA.out HRp.out.2.2 (fun _ _ h => h) (fun _ h => h.elim) (fun _ _ => trivial) HBx.out (below_size HBx.out) (by have := hsb; simp only [List.length_nil]; omega) ?_; intro vB wB hoB hbB hg_ hat_; rw [List.nil_append] at hoB; have HOB := Aside0.mk hoB; have HBx := Aside0.mk hbB; clear hoB hbB hg_ hat_; refine hK.out _ _ ⟨(blk_cell (blk_below BGd.out HBx.out) 0).trans rfl, (blk_cell (blk_below BGd.out HBx.out) 1).trans rfl⟩ (fun hHeld => ?_); clear hK K; refine norm_ (a' := ?_) ?_ ?_; rotate_left
       ·show Act.put _ (some 47) _ = _; exact zzS
       refine one_ (i := 6) (N := some 49) (zM 11 383) rfl rfl (one_of HT_.out (by kernel_rfl)) (by decide) (fun K hK => ?_); refine Kd.R_lit_step (w0 := wd) (Kd.int .i64) wd.heap.size 3 ?hg (N := 49) ?hd (xs := [(j : Int)]) (inner := [.int .i64 (j : Int)]) (ok := fun _ => True) (okp := fun _ => True) ?hr ?hp (fun _ hk => hk) trivial HBx.out (below_size HBx.out) (by simp) ?_; (case hd => rfl); (case hg => rfl); (case hr => exact zz9); (case hp => exact Kd.reps_scalar _); intro vX wX hoX hbX hg_ hnew_; have HOB := Aside0.mk (Kd.R_grown (ok := fun _ => True) HOB.out hg_ (fun k_ _ => by simp)); have HCx := Aside0.mk (Kd.R_tight rfl hoX); have HBx := Aside0.mk hbX; clear hoX hbX hg_ hnew_; refine hK.out _ _ ⟨(blk_cell (blk_below BGd.out HBx.out) 0).trans rfl, (blk_cell (blk_below BGd.out HBx.out) 1).trans rfl⟩ (fun hHeld => ?_); clear hK K; refine norm_ (a' := ?_) ?_ ?_; rotate_left
       ·show Act.put _ (some 49) _ = _; exact zzS
       obtain ⟨AX, cX, eX⟩ := Kd.R_slice HCx.out; subst eX; refine one_ (i := 7) (N := some 50) (zM 11 511) rfl rfl (one_of HT_.out (by kernel_rfl)) (by decide) (fun K hK => ?_); refine Kd.R_append_rows_step (Kd.int .i64) (w0 := wd) wd.heap.size (by rfl) (.tmp 47) (.tmp 49) 26 3 (.int .i64 0) 8 rfl Try.underlying26 info3 rfl (by decide) (by omega) vB s [(j : Int)] _ _ _ (fun _ => True) (fun _ => False) rfl rfl HOB.out (Kd.R_reads' HCx.out).2.2 (fun _ _ h => h) (fun _ h => h.elim) (fun _ _ => trivial) HBx.out (below_size HBx.out) (by have := hsb; simp only [List.length_cons, List.length_nil]; omega) ?_; intro vD wD hoD hbD hg_ hat_; have HBx := Aside0.mk hbD; have hlD : (s ++ [(j : Int)]).length = s.length + 1 := List.length_append; obtain ⟨g, cD, eD, hg1, hg2, _⟩ := Kd.R_form hoD (by omega); subst eD; have HOD := Aside0.mk hoD; have HGD := Aside0.mk (show wd.heap.size ≤ g ∧ g < wD.heap.size from ⟨hg1, hg2⟩); clear hoD hbD hg_ hat_ hg1 hg2; refine hK.out _ _ ⟨(blk_cell (blk_below BGd.out HBx.out) 0).trans rfl, (blk_cell (blk_below BGd.out HBx.out) 1).trans rfl⟩ (fun hHeld => ?_); clear hK K; refine norm_ (a' := ?_) ?_ ?_; rotate_left
       ·show Act.put _ (some 50) _ = _; exact zzS
       refine one_ (i := 9) (N := some 52) (zM 11 1023) rfl rfl (one_of HT_.out (by kernel_rfl)) (by decide) (fun K hK => ?_); refine goes_ Try.func58 (by kernel_rfl) rfl #[.agg #[.int .i64 (n : Int), .slice A0 es.length c0], .int .i64 q, .slice (some ⟨g, 0, none⟩) (s ++ [(j : Int)]).length cD, u3] (by rfl) rfl rfl zz22 ?_; have hTD := Kd.R_lower (Kd.R_tight rfl HOD.out) (below_size HBd.out); have h_ := IH.out (s ++ [(j : Int)]) (fun k_ => some k_ = (Value.slice (some ⟨g, 0, none⟩) (s ++ [(j : Int)]).length cD).ownBlock) (fun k_ => (ok k_ ∧ k_ ≠ gb) ∧ k_ ≠ g) (some ⟨g, 0, none⟩) cD u3 (out ++ (Cf.dfsJ (spec_l11All.cnt k (n : Int) es q) r s.length s j).filter (spec_l11All.pr k (n : Int) es q)) wD ?i1_4 ?i2_4 hTD ?i4_4 ?i5_4 ?i6_4 (below_step HBd.out HBx.out) ?i8_4; (case i1_4 => rw [hlD]; have := HLEN.out; omega); (case i2_4 => rw [hlD]; exact fun t ht => HANS.out t (Cf.dfs_sub _ _ _ _ HJN.out ht)); (case i4_4 => exact fun k_ hk h => h.2 (by simpa [Value.ownBlock] using hk)); (case i5_4 => exact fun k_ hk => ⟨⟨HFR.out k_ zz58, by have := HGW.out.2; have := HZd.out; have := HBx.out.size; omega⟩, by have := HGD.out; omega⟩); (case i6_4 => exact Kd.S_mono (Kd.S_below (Kd.S_bound HSd.out) HBx.out) fun k_ hk => ⟨hk.1, by have := hk.2.2.1; have := HGD.out; omega⟩); (case i8_4 => rw [hlD, List.length_append]; have h1 : (Cf.dfsJ (spec_l11All.cnt k (n : Int) es q) r s.length s j).length + (Cf.dfsB (spec_l11All.cnt k (n : Int) es q) r (s.length + 1) (s ++ [(j : Int)])).length ≤ (Cf.dfsB (spec_l11All.cnt k (n : Int) es q) (r + 1) s.length s).length := Cf.dfsJ_len (spec_l11All.cnt k (n : Int) es q) r s.length s HJN.out; have h2 := List.length_filter_le (spec_l11All.pr k (n : Int) es q) (Cf.dfsJ (spec_l11All.cnt k (n : Int) es q) r s.length s j); have h3 := HL.out; omega); rw [hlD] at h_; (try rw [hlD]); refine h_.mono ?_; rintro e w5 ⟨⟨v5, rfl, hS5⟩, hB5, hK5⟩; have BG5 := Aside0.mk (blk_kept (blk_below BGd.out HBx.out) hK5 (fun h => h.1.2 rfl)); have HS5 := Aside0.mk hS5; have HB5 := Aside0.mk hB5; have HK5 := Aside0.mk (show Kept w w5 ok ∧ w2.heap.size ≤ w5.heap.size from ⟨(HKd.out.below HBx.out).then_ hK5 (fun k_ h => Or.inl h.1.1), by have := hK5.1; have := HBx.out.size; have := HZd.out; omega⟩); clear hS5 hB5 hK5 h_ hTD; refine ⟨_, rfl, ?_⟩; refine hK.out _ _ ⟨(blk_cell BG5.out 0).trans rfl, (blk_cell BG5.out 1).trans rfl⟩ (fun hHeld => ?_); clear hK K; refine norm_ (a' := ?_) ?_ ?_; rotate_left
       ·show Act.put _ (some 52) _ = _; exact zzS
       refine zQ 10 3 (zM 11 2047) ?_
       refine done_ (done_of HT_.out (by kernel_rfl)) ?_; (try go_wp2); go_roundw
       case rel =>
        refine ⟨j + 1, by go_num, ⟨HJN.out⟩, ⟨HB5.out, BG5.out⟩, ⟨?_⟩, HK5⟩; rw [Cf.dfsJ_succ, List.filter_append, ← List.append_assoc]; (refine Kd.S_mono HS5.out fun k_ h => ?_); rcases h with h | h
        ·exact h.1
        ·(have e : k_ = g := by simpa [Value.ownBlock] using h); exact ⟨HFR.out k_ (by have := HKd.out.1; have := HGD.out; omega), by have := HGW.out.2; have := HZd.out; have := HGD.out; omega⟩
       case measure =>
        have := HJN.out; first | (simp [intOf]; done) | (simp [intOf]; omega)
      ·have HOA0 := HOA; refine Kd.R_lit_step (w0 := wd) (Kd.int .i64) wd.heap.size 3 ?hg (N := 49) ?hd (xs := [(j : Int)]) (inner := [.int .i64 (j : Int)]) (ok := fun _ => True) (okp := fun _ => True) ?hr ?hp (fun _ hk => hk) trivial HBx.out (below_size HBx.out) (by simp) ?_; (case hd => rfl); (case hg => rfl); (case hr => exact zz9); (case hp => exact Kd.reps_scalar _); intro vX wX hoX hbX hg_ hnew_; have HOA := Aside0.mk (Kd.R_grown (ok := fun _ => True) HOA.out hg_ (fun k_ _ => by simp)); have HCx := Aside0.mk (Kd.R_tight rfl hoX); have HBx := Aside0.mk hbX; have HNE := Aside0.mk (show vX.ownBlock ≠ vA.ownBlock from by obtain ⟨b_, hb1, hb2⟩ := hnew_; intro e; have := Kd.R_lt HOA0.out b_ (e.symm.trans hb1); omega); clear hoX hbX hg_ hnew_; refine hK.out _ _ ⟨(blk_cell (blk_below BGd.out HBx.out) 0).trans rfl, (blk_cell (blk_below BGd.out HBx.out) 1).trans rfl⟩ (fun hHeld => ?_); clear hK K; refine norm_ (a' := ?_) ?_ ?_; rotate_left
       ·show Act.put _ (some 49) _ = _; exact zzS
       refine one_ (i := 4) (N := some 47) (zM 11 383) rfl rfl (one_of HT_.out (by kernel_rfl)) (by decide) (fun K hK => ?_); have HRp := Aside0.mk (Kd.R_reads' (Kd.R_below HPd.out HBx.out)); refine Kd.R_append_rows_step (Kd.int .i64) (w0 := wd) wd.heap.size (by rfl) (.tmp 45) (.tmp 46) 26 3 (.int .i64 0) 8 rfl Try.underlying26 info3 rfl (by decide) (by omega) vA ([] : List Int) s _ _ _ (fun _ => True) (fun _ => False) rfl rfl HOA.out HRp.out.2.2 (fun _ _ h => h) (fun _ h => h.elim) (fun _ _ => trivial) HBx.out (below_size HBx.out) (by have := hsb; simp only [List.length_nil]; omega) ?_; intro vB wB hoB hbB hg_ hat_; rw [List.nil_append] at hoB; have HCx := Aside0.mk (Kd.R_step HCx.out fun k_ hk hlt => hg_.block k_ hlt (by rw [hk]; exact fun e => HNE.out e)); have HOB := Aside0.mk hoB; have HBx := Aside0.mk hbB; clear hoB hbB hg_ hat_; refine hK.out _ _ ⟨(blk_cell (blk_below BGd.out HBx.out) 0).trans rfl, (blk_cell (blk_below BGd.out HBx.out) 1).trans rfl⟩ (fun hHeld => ?_); clear hK K; refine norm_ (a' := ?_) ?_ ?_; rotate_left
       ·show Act.put _ (some 47) _ = _; exact zzS
       obtain ⟨AX, cX, eX⟩ := Kd.R_slice HCx.out; subst eX; refine one_ (i := 7) (N := some 50) (zM 11 511) rfl rfl (one_of HT_.out (by kernel_rfl)) (by decide) (fun K hK => ?_); refine Kd.R_append_rows_step (Kd.int .i64) (w0 := wd) wd.heap.size (by rfl) (.tmp 47) (.tmp 49) 26 3 (.int .i64 0) 8 rfl Try.underlying26 info3 rfl (by decide) (by omega) vB s [(j : Int)] _ _ _ (fun _ => True) (fun _ => False) rfl rfl HOB.out (Kd.R_reads' HCx.out).2.2 (fun _ _ h => h) (fun _ h => h.elim) (fun _ _ => trivial) HBx.out (below_size HBx.out) (by have := hsb; simp only [List.length_cons, List.length_nil]; omega) ?_; intro vD wD hoD hbD hg_ hat_; have HBx := Aside0.mk hbD; have hlD : (s ++ [(j : Int)]).length = s.length + 1 := List.length_append; obtain ⟨g, cD, eD, hg1, hg2, _⟩ := Kd.R_form hoD (by omega); subst eD; have HOD := Aside0.mk hoD; have HGD := Aside0.mk (show wd.heap.size ≤ g ∧ g < wD.heap.size from ⟨hg1, hg2⟩); clear hoD hbD hg_ hat_ hg1 hg2; refine hK.out _ _ ⟨(blk_cell (blk_below BGd.out HBx.out) 0).trans rfl, (blk_cell (blk_below BGd.out HBx.out) 1).trans rfl⟩ (fun hHeld => ?_); clear hK K; refine norm_ (a' := ?_) ?_ ?_; rotate_left
       ·show Act.put _ (some 50) _ = _; exact zzS
       refine one_ (i := 9) (N := some 52) (zM 11 1023) rfl rfl (one_of HT_.out (by kernel_rfl)) (by decide) (fun K hK => ?_); refine goes_ Try.func58 (by kernel_rfl) rfl #[.agg #[.int .i64 (n : Int), .slice A0 es.length c0], .int .i64 q, .slice (some ⟨g, 0, none⟩) (s ++ [(j : Int)]).length cD, u3] (by rfl) rfl rfl zz22 ?_; have hTD := Kd.R_lower (Kd.R_tight rfl HOD.out) (below_size HBd.out); have h_ := IH.out (s ++ [(j : Int)]) (fun k_ => some k_ = (Value.slice (some ⟨g, 0, none⟩) (s ++ [(j : Int)]).length cD).ownBlock) (fun k_ => (ok k_ ∧ k_ ≠ gb) ∧ k_ ≠ g) (some ⟨g, 0, none⟩) cD u3 (out ++ (Cf.dfsJ (spec_l11All.cnt k (n : Int) es q) r s.length s j).filter (spec_l11All.pr k (n : Int) es q)) wD ?i1_5 ?i2_5 hTD ?i4_5 ?i5_5 ?i6_5 (below_step HBd.out HBx.out) ?i8_5; (case i1_5 => rw [hlD]; have := HLEN.out; omega); (case i2_5 => rw [hlD]; exact fun t ht => HANS.out t (Cf.dfs_sub _ _ _ _ HJN.out ht)); (case i4_5 => exact fun k_ hk h => h.2 (by simpa [Value.ownBlock] using hk)); (case i5_5 => exact fun k_ hk => ⟨⟨HFR.out k_ zz58, by have := HGW.out.2; have := HZd.out; have := HBx.out.size; omega⟩, by have := HGD.out; omega⟩); (case i6_5 => exact Kd.S_mono (Kd.S_below (Kd.S_bound HSd.out) HBx.out) fun k_ hk => ⟨hk.1, by have := hk.2.2.1; have := HGD.out; omega⟩); (case i8_5 => rw [hlD, List.length_append]; have h1 : (Cf.dfsJ (spec_l11All.cnt k (n : Int) es q) r s.length s j).length + (Cf.dfsB (spec_l11All.cnt k (n : Int) es q) r (s.length + 1) (s ++ [(j : Int)])).length ≤ (Cf.dfsB (spec_l11All.cnt k (n : Int) es q) (r + 1) s.length s).length := Cf.dfsJ_len (spec_l11All.cnt k (n : Int) es q) r s.length s HJN.out; have h2 := List.length_filter_le (spec_l11All.pr k (n : Int) es q) (Cf.dfsJ (spec_l11All.cnt k (n : Int) es q) r s.length s j); have h3 := HL.out; omega); rw [hlD] at h_; (try rw [hlD]); refine h_.mono ?_; rintro e w5 ⟨⟨v5, rfl, hS5⟩, hB5, hK5⟩; have BG5 := Aside0.mk (blk_kept (blk_below BGd.out HBx.out) hK5 (fun h => h.1.2 rfl)); have HS5 := Aside0.mk hS5; have HB5 := Aside0.mk hB5; have HK5 := Aside0.mk (show Kept w w5 ok ∧ w2.heap.size ≤ w5.heap.size from ⟨(HKd.out.below HBx.out).then_ hK5 (fun k_ h => Or.inl h.1.1), by have := hK5.1; have := HBx.out.size; have := HZd.out; omega⟩); clear hS5 hB5 hK5 h_ hTD; refine ⟨_, rfl, ?_⟩; refine hK.out _ _ ⟨(blk_cell BG5.out 0).trans rfl, (blk_cell BG5.out 1).trans rfl⟩ (fun hHeld => ?_); clear hK K; refine norm_ (a' := ?_) ?_ ?_; rotate_left
       ·show Act.put _ (some 52) _ = _; exact zzS
       refine zQ 10 3 (zM 11 2047) ?_
       refine done_ (done_of HT_.out (by kernel_rfl)) ?_; (try go_wp2); go_roundw
       case rel =>
        refine ⟨j + 1, by go_num, ⟨HJN.out⟩, ⟨HB5.out, BG5.out⟩, ⟨?_⟩, HK5⟩; rw [Cf.dfsJ_succ, List.filter_append, ← List.append_assoc]; (refine Kd.S_mono HS5.out fun k_ h => ?_); rcases h with h | h
        ·exact h.1
        ·(have e : k_ = g := by simpa [Value.ownBlock] using h); exact ⟨HFR.out k_ (by have := HKd.out.1; have := HGD.out; omega), by have := HGW.out.2; have := HZd.out; have := HGD.out; omega⟩
       case measure =>
        have := HJN.out; first | (simp [intOf]; done) | (simp [intOf]; omega)
     ·(skip); refine Kd.R_lit_step (w0 := wd) (Kd.int .i64) wd.heap.size 3 ?hg (N := 49) ?hd (xs := [(j : Int)]) (inner := [.int .i64 (j : Int)]) (ok := fun _ => True) (okp := fun _ => True) ?hr ?hp (fun _ hk => hk) trivial (Below.refl _ _) (Nat.le_refl _) (by simp) ?_; (case hd => rfl); (case hg => rfl); (case hr => exact zz9); (case hp => exact Kd.reps_scalar _); intro vX wX hoX hbX hg_ hnew_; have HCx := Aside0.mk (Kd.R_tight rfl hoX); have HBx := Aside0.mk hbX; clear hoX hbX hg_ hnew_; refine hK.out _ _ ⟨(blk_cell (blk_below BGd.out HBx.out) 0).trans rfl, (blk_cell (blk_below BGd.out HBx.out) 1).trans rfl⟩ (fun hHeld => ?_); clear hK K; refine norm_ (a' := ?_) ?_ ?_; rotate_left
      ·show Act.put _ (some 49) _ = _; exact zzS
      refine one_ (i := 2) (N := some 45) (zM 11 367) rfl rfl (one_of HT_.out (by kernel_rfl)) (by decide) (fun K hK => ?_); (skip); refine Kd.R_lit_step (w0 := wd) (Kd.int .i64) wd.heap.size 3 ?hg (N := 45) ?hd (xs := ([] : List Int)) (inner := []) (ok := fun _ => True) (okp := fun _ => True) ?hr ?hp (fun _ hk => hk) trivial HBx.out (below_size HBx.out) (by simp) ?_; (case hd => rfl); (case hg => rfl); (case hr => exact zz9); (case hp => exact (Reps.none _ _)); intro vA wA hoA hbA hg_ hnew_; have HNE := Aside0.mk (show vX.ownBlock ≠ vA.ownBlock from by obtain ⟨b_, hb1, hb2⟩ := hnew_; intro e; have := Kd.R_lt HCx.out b_ (e.trans hb1); omega); have HCx := Aside0.mk (Kd.R_grown (ok := fun k_ => some k_ = vX.ownBlock) HCx.out hg_ (fun k_ _ => by simp)); have HOA := Aside0.mk hoA; have HBx := Aside0.mk hbA; clear hoA hbA hg_ hnew_; refine hK.out _ _ ⟨(blk_cell (blk_below BGd.out HBx.out) 0).trans rfl, (blk_cell (blk_below BGd.out HBx.out) 1).trans rfl⟩ (fun hHeld => ?_); clear hK K; refine norm_ (a' := ?_) ?_ ?_; rotate_left
      ·show Act.put _ (some 45) _ = _; exact zzS
      refine one_ (i := 4) (N := some 47) (zM 11 383) rfl rfl (one_of HT_.out (by kernel_rfl)) (by decide) (fun K hK => ?_); have HRp := Aside0.mk (Kd.R_reads' (Kd.R_below HPd.out HBx.out)); refine Kd.R_append_rows_step (Kd.int .i64) (w0 := wd) wd.heap.size (by rfl) (.tmp 45) (.tmp 46) 26 3 (.int .i64 0) 8 rfl Try.underlying26 info3 rfl (by decide) (by omega) vA ([] : List Int) s _ _ _ (fun _ => True) (fun _ => False) rfl rfl HOA.out HRp.out.2.2 (fun _ _ h => h) (fun _ h => h.elim) (fun _ _ => trivial) HBx.out (below_size HBx.out) (by have := hsb; simp only [List.length_nil]; omega) ?_; intro vB wB hoB hbB hg_ hat_; rw [List.nil_append] at hoB; have HCx := Aside0.mk (Kd.R_step HCx.out fun k_ hk hlt => hg_.block k_ hlt (by rw [hk]; exact fun e => HNE.out e)); have HOB := Aside0.mk hoB; have HBx := Aside0.mk hbB; clear hoB hbB hg_ hat_; refine hK.out _ _ ⟨(blk_cell (blk_below BGd.out HBx.out) 0).trans rfl, (blk_cell (blk_below BGd.out HBx.out) 1).trans rfl⟩ (fun hHeld => ?_); clear hK K; refine norm_ (a' := ?_) ?_ ?_; rotate_left
      ·show Act.put _ (some 47) _ = _; exact zzS
      obtain ⟨AX, cX, eX⟩ := Kd.R_slice HCx.out; subst eX; refine one_ (i := 7) (N := some 50) (zM 11 511) rfl rfl (one_of HT_.out (by kernel_rfl)) (by decide) (fun K hK => ?_); refine Kd.R_append_rows_step (Kd.int .i64) (w0 := wd) wd.heap.size (by rfl) (.tmp 47) (.tmp 49) 26 3 (.int .i64 0) 8 rfl Try.underlying26 info3 rfl (by decide) (by omega) vB s [(j : Int)] _ _ _ (fun _ => True) (fun _ => False) rfl rfl HOB.out (Kd.R_reads' HCx.out).2.2 (fun _ _ h => h) (fun _ h => h.elim) (fun _ _ => trivial) HBx.out (below_size HBx.out) (by have := hsb; simp only [List.length_cons, List.length_nil]; omega) ?_; intro vD wD hoD hbD hg_ hat_; have HBx := Aside0.mk hbD; have hlD : (s ++ [(j : Int)]).length = s.length + 1 := List.length_append; obtain ⟨g, cD, eD, hg1, hg2, _⟩ := Kd.R_form hoD (by omega); subst eD; have HOD := Aside0.mk hoD; have HGD := Aside0.mk (show wd.heap.size ≤ g ∧ g < wD.heap.size from ⟨hg1, hg2⟩); clear hoD hbD hg_ hat_ hg1 hg2; refine hK.out _ _ ⟨(blk_cell (blk_below BGd.out HBx.out) 0).trans rfl, (blk_cell (blk_below BGd.out HBx.out) 1).trans rfl⟩ (fun hHeld => ?_); clear hK K; refine norm_ (a' := ?_) ?_ ?_; rotate_left
      ·show Act.put _ (some 50) _ = _; exact zzS
      refine one_ (i := 9) (N := some 52) (zM 11 1023) rfl rfl (one_of HT_.out (by kernel_rfl)) (by decide) (fun K hK => ?_); refine goes_ Try.func58 (by kernel_rfl) rfl #[.agg #[.int .i64 (n : Int), .slice A0 es.length c0], .int .i64 q, .slice (some ⟨g, 0, none⟩) (s ++ [(j : Int)]).length cD, u3] (by rfl) rfl rfl zz22 ?_; have hTD := Kd.R_lower (Kd.R_tight rfl HOD.out) (below_size HBd.out); have h_ := IH.out (s ++ [(j : Int)]) (fun k_ => some k_ = (Value.slice (some ⟨g, 0, none⟩) (s ++ [(j : Int)]).length cD).ownBlock) (fun k_ => (ok k_ ∧ k_ ≠ gb) ∧ k_ ≠ g) (some ⟨g, 0, none⟩) cD u3 (out ++ (Cf.dfsJ (spec_l11All.cnt k (n : Int) es q) r s.length s j).filter (spec_l11All.pr k (n : Int) es q)) wD ?i1_6 ?i2_6 hTD ?i4_6 ?i5_6 ?i6_6 (below_step HBd.out HBx.out) ?i8_6; (case i1_6 => rw [hlD]; have := HLEN.out; omega); (case i2_6 => rw [hlD]; exact fun t ht => HANS.out t (Cf.dfs_sub _ _ _ _ HJN.out ht)); (case i4_6 => exact fun k_ hk h => h.2 (by simpa [Value.ownBlock] using hk)); (case i5_6 => exact fun k_ hk => ⟨⟨HFR.out k_ zz58, by have := HGW.out.2; have := HZd.out; have := HBx.out.size; omega⟩, by have := HGD.out; omega⟩); (case i6_6 => exact Kd.S_mono (Kd.S_below (Kd.S_bound HSd.out) HBx.out) fun k_ hk => ⟨hk.1, by have := hk.2.2.1; have := HGD.out; omega⟩); (case i8_6 => rw [hlD, List.length_append]; have h1 : (Cf.dfsJ (spec_l11All.cnt k (n : Int) es q) r s.length s j).length + (Cf.dfsB (spec_l11All.cnt k (n : Int) es q) r (s.length + 1) (s ++ [(j : Int)])).length ≤ (Cf.dfsB (spec_l11All.cnt k (n : Int) es q) (r + 1) s.length s).length := Cf.dfsJ_len (spec_l11All.cnt k (n : Int) es q) r s.length s HJN.out; have h2 := List.length_filter_le (spec_l11All.pr k (n : Int) es q) (Cf.dfsJ (spec_l11All.cnt k (n : Int) es q) r s.length s j); have h3 := HL.out; omega); rw [hlD] at h_; (try rw [hlD]); refine h_.mono ?_; rintro e w5 ⟨⟨v5, rfl, hS5⟩, hB5, hK5⟩; have BG5 := Aside0.mk (blk_kept (blk_below BGd.out HBx.out) hK5 (fun h => h.1.2 rfl)); have HS5 := Aside0.mk hS5; have HB5 := Aside0.mk hB5; have HK5 := Aside0.mk (show Kept w w5 ok ∧ w2.heap.size ≤ w5.heap.size from ⟨(HKd.out.below HBx.out).then_ hK5 (fun k_ h => Or.inl h.1.1), by have := hK5.1; have := HBx.out.size; have := HZd.out; omega⟩); clear hS5 hB5 hK5 h_ hTD; refine ⟨_, rfl, ?_⟩; refine hK.out _ _ ⟨(blk_cell BG5.out 0).trans rfl, (blk_cell BG5.out 1).trans rfl⟩ (fun hHeld => ?_); clear hK K; refine norm_ (a' := ?_) ?_ ?_; rotate_left
      ·show Act.put _ (some 52) _ = _; exact zzS
      refine zQ 10 3 (zM 11 2047) ?_
      refine done_ (done_of HT_.out (by kernel_rfl)) ?_; (try go_wp2); go_roundw
      case rel =>
       refine ⟨j + 1, by go_num, ⟨HJN.out⟩, ⟨HB5.out, BG5.out⟩, ⟨?_⟩, HK5⟩; rw [Cf.dfsJ_succ, List.filter_append, ← List.append_assoc]; (refine Kd.S_mono HS5.out fun k_ h => ?_); rcases h with h | h
       ·exact h.1
       ·(have e : k_ = g := by simpa [Value.ownBlock] using h); exact ⟨HFR.out k_ (by have := HKd.out.1; have := HGD.out; omega), by have := HGW.out.2; have := HZd.out; have := HGD.out; omega⟩
      case measure =>
       have := HJN.out; first | (simp [intOf]; done) | (simp [intOf]; omega)
    ·have d0 : decide ((j : Int) < mo) = false := decide_eq_false (by have := HCN2.out; omega); (have hjn : j = spec_l11All.cnt k (n : Int) es q s.length := by have := HJ.out; omega); have HJE := Aside0.mk hjn; clear hj hjn; go_wp2; go_ret; refine ⟨⟨_, rfl, ?_⟩, HBG.out.1, HKr.out.1⟩; have hS := HSr.out; rw [HJE.out, Cf.dfsJ_all] at hS; exact Kd.S_mono hS fun k_ h => Or.inl h.1
def spec_ParkingsOf.f (k : Nat) (a0 : Int) (es : List S57) (q : Int) : Option (List (List Int) × Bool) :=
 (spec_GraphOk.f k a0 es).bind fun t => if t = true then (spec_l01In.f q 0 (wrap64 (a0 - 1))).bind fun u => if u = true then (spec_GroupOrder.f k a0 es).bind fun c => if c ≤ 400 then (spec_l11All.f k a0 es q).bind fun L => if 0 ≤ q ∧ (∀ x ∈ L, q < (x.length : Int) ∧ x.length ≤ 1000000) ∧ L.length ≤ 1000000 then (spec_l09Sort.f k (L.map fun x => x.set q.toNat (-1))).bind fun r => some (r, true) else none else some ([], false) else some ([], false) else some ([], false)
theorem spec_ParkingsOf.mono : ∀ a0 a1 a2 k, LeO (spec_ParkingsOf.f k a0 a1 a2) (spec_ParkingsOf.f (k + 1) a0 a1 a2) := by
 intro a0 a1 a2 k; unfold spec_ParkingsOf.f; exact LeO.bind (spec_GraphOk.mono _ _ k) fun t => LeO.ite (LeO.bind (LeO.refl _) fun u => LeO.ite (LeO.bind (spec_GroupOrder.mono _ _ k) fun c => LeO.ite (LeO.bind (spec_l11All.mono _ _ _ k) fun _ => LeO.ite (LeO.bind (spec_l09Sort.mono _ k) fun _ => LeO.refl _) (LeO.refl _)) (LeO.refl _)) (LeO.refl _)) (LeO.refl _)
theorem spec_ParkingsOf.calls (k : Nat) (aD : Int) (aH : Option Addr) (aG : Nat) (aC : List S57) (a1 : Int) (r1 : List (List Int)) (r2 : Bool) (w : World) (hr0_1 : Kd.C k57 w aH aC.length aC) (hc0_1 : aC.length ≤ aG) (h : spec_ParkingsOf.f k aD aC a1 = some (r1, r2)) :
  Calls Try.prog 17 #[.agg #[.int .i64 aD, .slice aH aC.length aG], .int .i64 a1] w fun e w' => ∃ v0_ : Value, e = .returned (.tuple #[v0_, .bool r2]) ∧ Kd.S (Kd.slice 3 (Kd.int .i64)) 26 w' w.heap.size (fun _ => True) v0_ r1 ∧ Below w.heap.size w w' := by
 have hu25 := Try.underlying25; have HE := zK_ hr0_1; have HC := zK_ hc0_1; clear hr0_1 hc0_1; unfold spec_ParkingsOf.f at h; replace h := zO_ h; obtain ⟨t, ht, h⟩ := h; have HTT := zK_ ht; clear ht
 cases t with
 | false =>
  rw [if_neg (by simp)] at h; obtain ⟨rfl, rfl⟩ := Prod.mk.inj (Option.some.inj h); clear h; go_enter Try.func17, Try.ntmps17; (go_wp2_with (first | ((with_reducible refine gate_dst (N := 2) rfl ?_); refine box_event ?hg (N := 2) ?hd (cs := #[.int .i64 aD, .slice aH aC.length aG]) (t := 25) ?hr ?_; (case hd => rfl); (case hg => rfl); (case hr => exact zz9); intro gg hg w1 hbox hb; have BG1 := zK_ hbox; have HB1 := zK_ hb; have hz0 : w1.cell? ⟨gg, 0, none⟩ = some (.int .i64 aD) := (blk_cell BG1.out 0).trans rfl; have hz1 : w1.cell? ⟨gg, 1, none⟩ = some (.slice aH aC.length aG) := (blk_cell BG1.out 1).trans rfl; clear hg hbox hb))); refine (spec_GraphOk.calls k aD _ _ aC false _ (Kd.C_below HE.out HB1.out) HC.out HTT.out).mono ?_; rintro e w2 ⟨rfl, hb⟩; have BG2 := zK_ (blk_below BG1.out hb); have HB2 := zK_ (below_step HB1.out hb); clear hb hz0 hz1 BG1; go_wp2; (go_ret2); exact ⟨_, rfl, Kd.S_nil _ _ _ _ _, HB2.out⟩
 | true =>
  rw [if_pos rfl] at h; replace h := zO_ h; obtain ⟨u, hu, h⟩ := h; have HUU := zK_ hu; clear hu
  cases u with
  | false =>
   rw [if_neg (by simp)] at h; obtain ⟨rfl, rfl⟩ := Prod.mk.inj (Option.some.inj h); clear h; go_enter Try.func17, Try.ntmps17; (go_wp2_with (first | ((with_reducible refine gate_dst (N := 2) rfl ?_); refine box_event ?hg (N := 2) ?hd (cs := #[.int .i64 aD, .slice aH aC.length aG]) (t := 25) ?hr ?_; (case hd => rfl); (case hg => rfl); (case hr => exact zz9); intro gg hg w1 hbox hb; have BG1 := zK_ hbox; have HB1 := zK_ hb; have hz0 : w1.cell? ⟨gg, 0, none⟩ = some (.int .i64 aD) := (blk_cell BG1.out 0).trans rfl; have hz1 : w1.cell? ⟨gg, 1, none⟩ = some (.slice aH aC.length aG) := (blk_cell BG1.out 1).trans rfl; clear hg hbox hb))); refine (spec_GraphOk.calls k aD _ _ aC true _ (Kd.C_below HE.out HB1.out) HC.out HTT.out).mono ?_; rintro e w2 ⟨rfl, hb⟩; have BG2 := zK_ (blk_below BG1.out hb); have HB2 := zK_ (below_step HB1.out hb); clear hb hz0 hz1 BG1; have hz0 : w2.cell? ⟨gg, 0, none⟩ = some (.int .i64 aD) := (blk_cell BG2.out 0).trans rfl; have hz1 : w2.cell? ⟨gg, 1, none⟩ = some (.slice aH aC.length aG) := (blk_cell BG2.out 1).trans rfl; (go_wp2_with fail); refine (spec_l01In.calls _ _ _ false _ HUU.out).mono ?_; rintro e w3 ⟨rfl, hd⟩; have hb := Drawn0.below hd; have BG3 := zK_ (blk_below BG2.out hb); have HB3 := zK_ (below_step HB2.out hb); clear hb hd hz0 hz1 BG2; go_wp2; (go_ret2); exact ⟨_, rfl, Kd.S_nil _ _ _ _ _, HB3.out⟩
  | true =>
   rw [if_pos rfl] at h; replace h := zO_ h; obtain ⟨c, hc, h⟩ := h; have HCT := zK_ hc; clear hc; by_cases hle : c ≤ 400; rotate_left
   ·rw [if_neg hle] at h; obtain ⟨rfl, rfl⟩ := Prod.mk.inj (Option.some.inj h); clear h; have d0 : decide (c > 400) = true := decide_eq_true (by omega); have d1 : decide (400 < c) = true := decide_eq_true (by omega); go_enter Try.func17, Try.ntmps17; (go_wp2_with (first | ((with_reducible refine gate_dst (N := 2) rfl ?_); refine box_event ?hg (N := 2) ?hd (cs := #[.int .i64 aD, .slice aH aC.length aG]) (t := 25) ?hr ?_; (case hd => rfl); (case hg => rfl); (case hr => exact zz9); intro gg hg w1 hbox hb; have BG1 := zK_ hbox; have HB1 := zK_ hb; have hz0 : w1.cell? ⟨gg, 0, none⟩ = some (.int .i64 aD) := (blk_cell BG1.out 0).trans rfl; have hz1 : w1.cell? ⟨gg, 1, none⟩ = some (.slice aH aC.length aG) := (blk_cell BG1.out 1).trans rfl; clear hg hbox hb))); refine (spec_GraphOk.calls k aD _ _ aC true _ (Kd.C_below HE.out HB1.out) HC.out HTT.out).mono ?_; rintro e w2 ⟨rfl, hb⟩; have BG2 := zK_ (blk_below BG1.out hb); have HB2 := zK_ (below_step HB1.out hb); clear hb hz0 hz1 BG1; have hz0 : w2.cell? ⟨gg, 0, none⟩ = some (.int .i64 aD) := (blk_cell BG2.out 0).trans rfl; have hz1 : w2.cell? ⟨gg, 1, none⟩ = some (.slice aH aC.length aG) := (blk_cell BG2.out 1).trans rfl; (go_wp2_with fail); refine (spec_l01In.calls _ _ _ true _ HUU.out).mono ?_; rintro e w3 ⟨rfl, hd⟩; have hb := Drawn0.below hd; have BG3 := zK_ (blk_below BG2.out hb); have HB3 := zK_ (below_step HB2.out hb); clear hb hd hz0 hz1 BG2; have hz0 : w3.cell? ⟨gg, 0, none⟩ = some (.int .i64 aD) := (blk_cell BG3.out 0).trans rfl; have hz1 : w3.cell? ⟨gg, 1, none⟩ = some (.slice aH aC.length aG) := (blk_cell BG3.out 1).trans rfl; (go_wp2_with fail); refine (spec_GroupOrder.calls k aD _ _ aC c _ (Kd.C_below HE.out HB3.out) HC.out HCT.out).mono ?_; rintro e w4 ⟨rfl, hb⟩; have BG4 := zK_ (blk_below BG3.out hb); have HB4 := zK_ (below_step HB3.out hb); clear hb hz0 hz1 BG3; go_wp2; (go_ret2); exact ⟨_, rfl, Kd.S_nil _ _ _ _ _, HB4.out⟩
   rw [if_pos hle] at h; replace h := zO_ h; obtain ⟨L, hL, h⟩ := h; (split at h); (case isFalse => cases h); rename_i hok; replace h := zO_ h; obtain ⟨r, hr, h⟩ := h; obtain ⟨rfl, rfl⟩ := Prod.mk.inj (Option.some.inj h); clear h; obtain ⟨hq0, hql, hLl⟩ := hok; obtain ⟨q, rfl⟩ := Int.eq_ofNat_of_zero_le hq0; rw [Int.toNat_natCast] at hr; unfold spec_l11All.f at hL; (split at hL); (case isFalse => cases hL); rename_i hokL; obtain ⟨⟨⟨hn0, hn6⟩, hV⟩, hbn⟩ := hokL; obtain ⟨n, rfl⟩ := Int.eq_ofNat_of_zero_le hn0; unfold spec_l11All.ok1 at hbn; rw [Int.toNat_natCast] at hV hbn hL; have hLe := Option.some.inj hL; have HLE := zK_ hLe; have HV := zK_ hV; have HBN := zK_ hbn; have HN := zK_ (show n ≤ 6 from by omega); have HQL := zK_ hql; have HLn := zK_ hLl; have HSO := zK_ hr; (have hnb : (L.length : Int) ≤ 1000000 := by omega); have qA : (n : Int) ≤ 6 := hn6; have d0 : decide (c > 400) = false := decide_eq_false (by omega); have d1 : decide (400 < c) = false := decide_eq_false (by omega); have HUU := zK_ (show spec_l01In.f (q : Int) 0 ((n : Int) - 1) = some true from by have h_ := HUU.out; rw [show wrap64 ((n : Int) - 1) = (n : Int) - 1 from by unfold wrap64; omega] at h_; exact h_); clear hq0 hql hLl hL hle hr hn0 hn6 hV hbn hLe; go_enter Try.func17, Try.ntmps17; (go_wp2_with (first | ((with_reducible refine gate_dst (N := 2) rfl ?_); refine box_event ?hg (N := 2) ?hd (cs := #[.int .i64 (n : Int), .slice aH aC.length aG]) (t := 25) ?hr ?_; (case hd => rfl); (case hg => rfl); (case hr => exact zz9); intro gg hg w1 hbox hb; have BG1 := zK_ hbox; have HB1 := zK_ hb; have hz0 : w1.cell? ⟨gg, 0, none⟩ = some (.int .i64 (n : Int)) := (blk_cell BG1.out 0).trans rfl; have hz1 : w1.cell? ⟨gg, 1, none⟩ = some (.slice aH aC.length aG) := (blk_cell BG1.out 1).trans rfl; clear hg hbox hb))); refine (spec_GraphOk.calls k (n : Int) _ _ aC true _ (Kd.C_below HE.out HB1.out) HC.out HTT.out).mono ?_; rintro e w2 ⟨rfl, hb⟩; have BG2 := zK_ (blk_below BG1.out hb); have HB2 := zK_ (below_step HB1.out hb); clear hb hz0 hz1 BG1; have hz0 : w2.cell? ⟨gg, 0, none⟩ = some (.int .i64 (n : Int)) := (blk_cell BG2.out 0).trans rfl; have hz1 : w2.cell? ⟨gg, 1, none⟩ = some (.slice aH aC.length aG) := (blk_cell BG2.out 1).trans rfl; (go_wp2_with fail); refine (spec_l01In.calls _ _ _ true _ HUU.out).mono ?_; rintro e w3 ⟨rfl, hd⟩; have hb := Drawn0.below hd; have BG3 := zK_ (blk_below BG2.out hb); have HB3 := zK_ (below_step HB2.out hb); clear hb hd hz0 hz1 BG2; have hz0 : w3.cell? ⟨gg, 0, none⟩ = some (.int .i64 (n : Int)) := (blk_cell BG3.out 0).trans rfl; have hz1 : w3.cell? ⟨gg, 1, none⟩ = some (.slice aH aC.length aG) := (blk_cell BG3.out 1).trans rfl; (go_wp2_with fail); refine (spec_GroupOrder.calls k (n : Int) _ _ aC c _ (Kd.C_below HE.out HB3.out) HC.out HCT.out).mono ?_; rintro e w4 ⟨rfl, hb⟩; have BG4 := zK_ (blk_below BG3.out hb); have HB4 := zK_ (below_step HB3.out hb); clear hb hz0 hz1 BG3; have hz0 : w4.cell? ⟨gg, 0, none⟩ = some (.int .i64 (n : Int)) := (blk_cell BG4.out 0).trans rfl; have hz1 : w4.cell? ⟨gg, 1, none⟩ = some (.slice aH aC.length aG) := (blk_cell BG4.out 1).trans rfl; (go_wp2_with (first | ((with_reducible refine gate_dst (N := 26) rfl ?_); refine Kd.S_lit (w0 := w4) (Kd.slice 3 (Kd.int .i64)) w4.heap.size 26 ?hg (N := 26) ?hd (xs := ([] : List (List Int))) (inner := []) (ok := fun _ => True) (okp := fun _ => True) ?hr ?hp (fun _ hk => hk) trivial (Below.refl _ _) (Nat.le_refl _) (by simp) ?_; (case hd => rfl); (case hg => rfl); (case hr => exact zz9); (case hp => exact (Reps.none _ _)); intro v26 w5 ho hb hg_ hnew_; have HS5 := zK_ (Kd.S_mono (Kd.S_bound ho) (ok' := fun k_ => k_ < w5.heap.size) fun k_ hk => hk.2.2.1); have HB5 := zK_ hb; have BG5 := zK_ (blk_below BG4.out hb); have hy0 : w5.cell? ⟨gg, 0, none⟩ = some (.int .i64 (n : Int)) := (blk_cell BG5.out 0).trans rfl; have hy1 : w5.cell? ⟨gg, 1, none⟩ = some (.slice aH aC.length aG) := (blk_cell BG5.out 1).trans rfl; clear ho hb hg_ hnew_ hz0 hz1) | ((with_reducible refine gate_dst (N := 29) rfl ?_); refine Kd.R_lit (w0 := w5) (Kd.int .i64) w5.heap.size 3 ?hg (N := 29) ?hd (xs := ([] : List Int)) (inner := []) (ok := fun _ => True) (okp := fun _ => True) ?hr ?hp (fun _ hk => hk) trivial (Below.refl _ _) (Nat.le_refl _) (by simp) ?_; (case hd => rfl); (case hg => rfl); (case hr => exact zz9); (case hp => exact (Reps.none _ _)); intro v29 w6 ho hb hg_ hnew_; obtain ⟨AP, cP, eP⟩ := Kd.R_slice ho; subst eP; have BL := zK_ (Kd.R_mono (Kd.R_bound ho) (ok' := fun k_ => w5.heap.size ≤ k_ ∧ k_ < w6.heap.size) fun k_ hk => ⟨hk.2.1, hk.2.2.1⟩); have HB6 := zK_ hb; clear ho hb hg_ hnew_))); have HB56 := zK_ (below_step HB5.out HB6.out); have hpick := spec_l11All.pick k n (q : Int) aH aG aC w4 HN.out (Kd.C_below HE.out HB4.out) HC.out HV.out n [] (fun k_ => w5.heap.size ≤ k_ ∧ k_ < w6.heap.size) (fun k_ => w6.heap.size ≤ k_) AP cP (.slice none 0 0) [] w6 (by simp) HBN.out (Kd.R_lower BL.out HB5.out.size) (fun k_ h1 h2 => by have h3 := h1.2; omega) (fun k_ h => h) (Kd.S_nil _ _ _ _ _) HB56.out (by show ([] : List (List Int)).length + (Cf.dfsB (spec_l11All.cnt k (n : Int) aC (q : Int)) n 0 []).length ≤ _; rw [Cf.dfs_box, List.length_nil]; have := Cf.boxL_len (c := (spec_l11All.cnt k (n : Int) aC (q : Int))) (b := 24) (v := n) (fun u hu => by unfold spec_l11All.cnt; have := HV.out u hu; unfold mx; split; omega; split <;> omega); have := Nat.pow_le_pow_right (n := 24) (by omega) HN.out; omega); rw [List.nil_append, show ((([] : List Int).length : Nat)) = 0 from rfl, HLE.out] at hpick; refine hpick.mono ?_; rintro e w7 ⟨⟨v7, rfl, hS7⟩, hB7, hK7⟩; obtain ⟨A, cA, eA⟩ := Kd.S_slice hS7; subst eA; have HSL := zK_ (Kd.S_mono (Kd.S_bound hS7) (ok' := fun k_ => w5.heap.size ≤ k_ ∧ k_ < w7.heap.size) fun k_ hk => ⟨by rcases hk.1 with h | h; have := HB6.out.size; omega; exact h.1, hk.2.2.1⟩); have HSO7 := zK_ (Kd.S_mono (Kd.S_kept (Kd.S_below HS5.out HB6.out) hK7 fun k_ h1 h2 => by have h3 : w6.heap.size ≤ k_ := h2; have h4 : k_ < w5.heap.size := h1; have := HB6.out.size; omega) (ok' := fun k_ => k_ < w5.heap.size ∨ w7.heap.size ≤ k_) fun k_ h => Or.inl h); have HB7 := zK_ hB7; have HZ57 := zK_ (show w5.heap.size ≤ w7.heap.size from Nat.le_trans HB6.out.size hK7.1); clear hS7 hB7 hK7 hpick hy0 hy1 BG5 BG4 BL; (try go_wp2); (go_loopw [6, 32] (fun v6 v32 wr => ∃ i : Nat, v32 = .int .i64 (i : Int) ∧ Aside0 (i ≤ L.length ∧ w7.heap.size ≤ wr.heap.size) ∧ Aside0 (Below w4.heap.size w4 wr) ∧ Aside0 (Kd.S (Kd.slice 3 (Kd.int .i64)) 26 wr w4.heap.size (fun k_ => w5.heap.size ≤ k_ ∧ k_ < w7.heap.size) (.slice A L.length cA) L) ∧ Aside0 (Kd.S (Kd.slice 3 (Kd.int .i64)) 26 wr w4.heap.size (fun k_ => k_ < w5.heap.size ∨ w7.heap.size ≤ k_) v6 ((L.take i).map fun x => x.set q (-1)))) (fun _ v _ => L.length - (intOf v).toNat)); case atStart => exact ⟨0, rfl, ⟨Nat.zero_le _, Nat.le_refl _⟩, HB7, HSL, HSO7⟩
   case round =>
    clear HSL HSO7 HB7; obtain ⟨i, rfl, HI, HBr, HLr, HSr⟩ := hrel; by_cases hlt : i < L.length; rotate_left
    ·have c0_ : decide ((i : Int) < (L.length : Int)) = false := decide_eq_false (by omega); have c1_ : decide (i < L.length) = false := decide_eq_false hlt; (have hi : i = L.length := by have := HI.out; omega); subst hi; clear hlt; have hS := HSr.out; rw [List.take_length] at hS; have HS8 := zK_ hS; clear hS; (go_wp2_with fail); refine (spec_l09Sort.callsS k _ _ _ r w4 _ HBr.out HS8.out HSO.out).mono ?_; rintro e w9 ⟨v9, rfl, hS9, hb⟩; have HS9 := zK_ hS9; have HB9 := zK_ (below_step HBr.out hb); clear hS9 hb; go_wp2; (go_ret2); exact ⟨_, rfl, Kd.S_mono (Kd.S_lower HS9.out HB4.out.size) (fun _ _ => trivial), below_step HB4.out HB9.out⟩
    have c0_ : decide ((i : Int) < (L.length : Int)) = true := decide_eq_true (by omega); have c1_ : decide (i < L.length) = true := decide_eq_true hlt; (have p1 : (0 : Int) ≤ (i : Int) := by omega); (have p2 : (i : Int) < (L.length : Int) := by omega); (have hib : (i : Int) ≤ 1000000 := by omega); obtain ⟨x, hxi⟩ : ∃ x, L[i]? = some x := ⟨_, List.getElem?_eq_getElem hlt⟩; (have hx : rd_L3 L (i : Int) = x := by unfold rd_L3; rw [Int.toNat_natCast, List.getD_eq_getElem?_getD, hxi]; rfl); obtain ⟨gL, _, _, eg, _, _, _⟩ := at_L3 (Kd.S_reads' HLr.out).2.2 (i : Int) p1 p2; subst eg; obtain ⟨cc, _, hM, hcell⟩ := Kd.S_get HLr.out ([] : List Int) (i : Int) p1 p2; obtain ⟨vx, hvx, hRx⟩ := hM; subst hvx; replace hcell := hcell 0 vx rfl; rw [show (L.getD ((i : Int)).toNat []) = x from hx] at hRx; obtain ⟨Ai, ci, ei⟩ := Kd.R_slice hRx; subst ei; rw [Int.toNat_natCast, show i * (Kd.slice 3 (Kd.int .i64)).sz + 0 = i from Nat.mul_one i] at hcell; have HRi := zK_ (Kd.R_reads' hRx); obtain ⟨hxq, hxl⟩ := HQL.out x (List.mem_of_getElem? hxi); (have hxb : (x.length : Int) ≤ 1000000 := by omega); (have q1 : (0 : Int) ≤ (q : Int) := by omega); have HLT := zK_ hlt; have HXI := zK_ hxi; have HXQ := zK_ (show q < x.length ∧ x.length ≤ 1000000 from ⟨by omega, hxl⟩); have HOL := zK_ (show ((L.take i).map fun x => x.set q (-1)).length ≤ 1000000 from by rw [List.length_map, List.length_take]; have := HLn.out; omega); (have hsl : ∀ y : Int, (x.set q y).length = x.length := fun y => List.length_set); clear hxi hlt hx hRx hxl; (go_wp2_with (first | ((with_reducible refine gate_dst (N := 36) rfl ?_); refine Kd.R_lit (w0 := wr) (Kd.int .i64) wr.heap.size 3 ?hg (N := 36) ?hd (xs := ([] : List Int)) (inner := []) (ok := fun _ => True) (okp := fun _ => True) ?hr ?hp (fun _ hk => hk) trivial (Below.refl _ _) (Nat.le_refl _) (by simp) ?_; (case hd => rfl); (case hg => rfl); (case hr => exact zz9); (case hp => exact (Reps.none _ _)); intro vA wA ho hb hg_ hnew_; have HOA := zK_ ho; have HBA := zK_ hb; clear ho hb hg_ hnew_) | ((with_reducible refine gate_builtin (b := .append) (xs := #[.tmp 36, .tmp 37]) rfl ?_); at_builtin; refine Kd.R_append_rows (Kd.int .i64) (w0 := wr) wr.heap.size rfl (.tmp 36) (.tmp 37) 26 3 (.int .i64 0) 8 rfl Try.underlying26 info3 rfl (by decide) (by omega) vA ([] : List Int) x _ _ _ (fun _ => True) (fun _ => False) rfl rfl HOA.out (Kd.C_below HRi.out.2.2 HBA.out) (fun _ _ h => h) (fun _ h => h.elim) (fun _ _ => trivial) HBA.out (below_size HBA.out) (by have := HXQ.out; simp only [List.length_nil]; omega) ?_; intro vB wB ho hb hg hat; rw [List.nil_append] at ho; obtain ⟨gB, cB, eB, hgB, _⟩ := Kd.R_form ho (by have := HXQ.out; omega); subst eB; have HOB := zK_ ho; have HBB := zK_ hb; have HGB := zK_ hgB; obtain ⟨hmv, hmf⟩ := Kd.R_celln 0 ho (q : Int) q1 hxq; rw [Int.toNat_natCast] at hmv hmf; clear ho hb hg hat hgB) | ((with_reducible refine gate_store (t := 3) (p := 41) rfl ?_); refine store_event (t := 3) (p := 41) (v := .const (.int .i64 (-1))) (w1 := (wB.setCell ⟨gB, q, none⟩ (.int .i64 (-1)))) ?hg ?ho ?hn ?hr ?_; (case ho => rfl); (case hg => rfl); (case hn => rfl); (case hr => exact zz9); intro wC hw; have hput := Kd.R_putg HOB.out (q : Int) (-1); rw [Int.toNat_natCast] at hput; have HD := zK_ (show Kd.R (Kd.int .i64) 3 wC wr.heap.size (fun k_ => wr.heap.size ≤ k_) (.slice (some ⟨gB, 0, none⟩) x.length cB) (x.set q (-1)) from by rw [hw]; exact Kd.R_mono (Kd.R_bound hput.1) fun k_ hk => hk.2.1); have HBC := zK_ (show Below wr.heap.size wr wC from by rw [hw]; exact below_set HBB.out HGB.out); clear hw hput hmv hmf) | ((with_reducible refine gate_builtin (b := .append) (xs := #[.tmp 42, .tmp 44]) rfl ?_); at_builtin; refine Kd.S_append (Kd.slice 3 (Kd.int .i64)) (w0 := w4) w4.heap.size rfl (.tmp 42) (.tmp 44) 34 26 (.slice none 0 0) 24 rfl Try.underlying34 info26 rfl (by decide) (by omega) u6 ((L.take i).map fun x => x.set q (-1)) (x.set q (-1)) [.slice (some ⟨gB, 0, none⟩) x.length cB] (fun k_ => k_ < w5.heap.size ∨ w7.heap.size ≤ k_) (fun k_ => wr.heap.size ≤ k_) rfl rfl (Kd.M_row (Kd.R_lower HD.out (below_size HBr.out))) (fun k_ hk => ⟨Or.inr (by have := HI.out; omega), fun e => by have := Kd.S_lt HSr.out k_ e.symm; omega⟩) (fun k_ hk => Or.inr (by have := HI.out; have := HBC.out.size; omega)) (Kd.S_mono (Kd.S_below (Kd.S_bound HSr.out) HBC.out) fun k_ hk => ⟨hk.1, fun h => by have := hk.2.2.1; omega⟩) (below_step HBr.out HBC.out) (below_size (below_step HBr.out HBC.out)) (by have := HOL.out; omega) ?_; intro vE wE ho hb hg hat; have HOE := zK_ ho; have HBE := zK_ hb; have HLE2 := zK_ (Kd.S_grown (Kd.S_below (Kd.S_bound HLr.out) HBC.out) hg fun k_ hk e => by have := HSr.out.choose_spec.1 k_ e.symm; have h2 := hk.1; omega); have HZE := zK_ hg.size; clear ho hb hg hat))); go_roundw
    case rel =>
     refine ⟨i + 1, by go_num, ⟨HLT.out, by have := HBC.out.size; have := HZE.out; have := HI.out; omega⟩, HBE, ⟨Kd.S_mono HLE2.out fun k_ hk => hk.1⟩, ⟨?_⟩⟩; rw [List.take_add_one, HXI.out, List.map_append]; exact HOE.out
    case measure =>
     have := HLT.out; (simp [intOf]); omega
end Go.Proofs.Ytnbljcgdgblgoaa.P
end

section
namespace Go.Proofs.Ytnbljcgdgblgoaa.Cf
set_option linter.unusedVariables false
set_option linter.unusedSimpArgs false
open Go.RowKit Go.Proofs.YtnbljcgdgblgoaaW.PrintWords Go.Proofs.Ytnbljcgdgblgoaa.P
def lexB : List Int → List Int → Bool
 | x :: xs, y :: ys => if x = y then lexB xs ys else decide (x < y)
 | _, _ => false
theorem less_l0 (a b : List Int) (hl : a.length = b.length) (hb : a.length ≤ 1000) : ∀ (d i : Nat), i + d = a.length → Ep (fun k => spec_l09Less.l0 k b a (a.length : Int) (i : Int)) (· = lexB (a.drop i) (b.drop i)) := by
 intro d
 induction d with
 | zero =>
  intro i hi
  refine Ep.up ?_
  simp only [spec_l09Less.l0]
  refine Ep.neg (by omega) (Ep.now ?_)
  rw [List.drop_eq_nil_of_le (by omega)]
  rfl
 | succ d ih =>
  intro i hi
  have h := ih (i + 1) (by omega)
  have ha : i < a.length := by omega
  have hb2 : i < b.length := by omega
  refine Ep.up ?_
  simp only [spec_l09Less.l0]
  refine Ep.pos (by omega) (Ep.pos (by omega) (Ep.pos (by omega) (Ep.pos (by omega) ?_)))
  rw [List.drop_eq_getElem_cons ha, List.drop_eq_getElem_cons hb2, rd_get ha, rd_get hb2, wrap_succ (by omega)]
  by_cases e : a[i] = b[i]
  ·refine Ep.pos e (h.mono fun r hr => hr.trans ?_)
   show _ = if a[i] = b[i] then _ else _
   rw [if_pos e]
  ·refine Ep.neg e (Ep.now ?_)
   show _ = if a[i] = b[i] then _ else _
   rw [if_neg e]
theorem specLess (a b : List Int) (hl : a.length = b.length) (hb : a.length ≤ 1000) : Ep (fun k => spec_l09Less.f k a b) (· = lexB a b) := by
 simp only [spec_l09Less.f]
 exact less_l0 a b hl hb a.length 0 (by omega)
def cntP (es : List E) (q : Int) (v : Nat) : Nat := if (v : Int) = q then 1 else (val es (v : Int)).toNat
def pB (n : Nat) (es : List E) (q : Int) (x : List Int) : Bool := decide ((burnF n es (rd x) q).length = n)
def redL (n : Nat) (es : List E) (q : Int) : List (List Int) := (boxL (cntP es q) n).filter (pB n es q)
theorem box_congr {c d : Nat → Nat} : ∀ {n : Nat}, (∀ v, v < n → c v = d v) → boxL c n = boxL d n
 | 0, _ => rfl
 | n + 1, h => by rw [boxL, boxL, box_congr fun v hv => h v (by omega), h n (by omega)]
theorem box_len1 {c : Nat → Nat} {b q : Nat} (hb : 1 ≤ b) (hq : c q ≤ 1) : ∀ {v : Nat}, (∀ u, u < v → c u ≤ b) → (boxL c v).length ≤ if q < v then b ^ (v - 1) else b ^ v
 | 0, _ => by rw [if_neg (by omega)]; exact Nat.le_refl _
 | v + 1, h => by
  have ih := box_len1 hb hq (v := v) fun u hu => h u (by omega)
  show ((boxL c v).flatMap (extB (c v))).length ≤ _
  rw [flatB_len]
  by_cases e : q < v
  ·rw [if_pos e] at ih
   rw [if_pos (by omega)]
   have := Nat.mul_le_mul ih (h v (by omega))
   rwa [← Nat.pow_succ, show (v - 1).succ = v + 1 - 1 by omega] at this
  ·rw [if_neg e] at ih
   by_cases e2 : q = v
   ·subst e2
    rw [if_pos (by omega), Nat.add_sub_cancel]
    have := Nat.mul_le_mul ih hq
    omega
   ·rw [if_neg (by omega), Nat.pow_succ]
    exact Nat.mul_le_mul ih (h v (by omega))
section
variable {n : Nat} {es : List E} {q : Int}
theorem val_bd (g : Gr n es q) (v : Int) : val es v ≤ 12 := by have := val_le es v; have := g.hel; omega
theorem val_ge (g : Gr n es q) {v : Nat} (hv : v < n) (hne : (v : Int) ≠ q) : 1 ≤ val es (v : Int) := by
 have := val_pos g.hj g.hq ⟨by omega, by omega⟩ hne
 omega
theorem cntP_le (g : Gr n es q) (v : Nat) : cntP es q v ≤ 12 := by
 unfold cntP
 have := val_bd g (v : Int)
 split <;> omega
theorem cntP_pos (g : Gr n es q) {v : Nat} (hv : v < n) : 1 ≤ cntP es q v := by
 unfold cntP
 split
 ·exact Nat.le_refl _
 ·rename_i h
  have := val_ge g hv h
  omega
theorem box_bd (g : Gr n es q) : (boxL (cntP es q) n).length ≤ 248832 := by
 have hq := g.hq
 have h6 := g.n6
 have h := box_len1 (c := cntP es q) (b := 12) (q := q.toNat) (by omega) (by unfold cntP; rw [if_pos (by omega)]; exact Nat.le_refl _) (v := n) fun u _ => cntP_le g u
 rw [if_pos (by omega)] at h
 exact Nat.le_trans h (Nat.pow_le_pow_right (n := 12) (by omega) (show n - 1 ≤ 5 by omega))
theorem box_pos (g : Gr n es q) : 0 < (boxL (cntP es q) n).length := by
 have key : ∀ m, m ≤ n → 0 < (boxL (cntP es q) m).length := by
  intro m
  induction m with
  | zero => intro _; exact Nat.one_pos
  | succ m ih =>
   intro hm
   show 0 < ((boxL (cntP es q) m).flatMap (extB (cntP es q m))).length
   rw [flatB_len]
   exact Nat.mul_pos (ih (by omega)) (cntP_pos g (by omega))
 exact key n (Nat.le_refl _)
theorem burn_le (g : Gr n es q) (x : List Int) : (burnF n es (rd x) q).length ≤ n := (burnF_ok (es := es) (d := rd x) g.hq).1.len g.hq
theorem redL_mem {x : List Int} (h : x ∈ redL n es q) : x.length = n ∧ ∀ (j : Nat) (hj : j < x.length), 0 ≤ x[j] ∧ x[j] < (cntP es q j : Int) := boxL_row (List.mem_filter.1 h).1
theorem redL_len (g : Gr n es q) : (redL n es q).length ≤ 248832 := Nat.le_trans (List.length_filter_le _ _) (box_bd g)
theorem implRed (g : Gr n es q) : Ep (fun k => impl_reducedAt.f k (n : Int) es q) (· = redL n es q) := by
 have h6 := g.n6
 have hel := g.hel
 obtain ⟨K1, hK1⟩ := Ep.all (f := fun k (v : Nat) => impl_Valence.f k (n : Int) es (v : Int)) (g := fun v => valG (n : Int) es (v : Int)) (List.range n) fun v _ => implValence (n : Int) es (v : Int) (by omega)
 obtain ⟨K2, hK2⟩ := Ep.all (f := fun k x => impl_burn.f k (n : Int) es x q) (g := fun x => burnF n es (rd x) q) (boxL (cntP es q) n) fun x hx => implBurn g x (boxL_row hx).1
 refine ⟨_, rfl, max K1 K2, fun k hk => ?_⟩
 have hv : ∀ v, v < n → impl_Valence.f k (n : Int) es (v : Int) = some (val es (v : Int)) := fun v hv => by rw [hK1 k (by omega) v (List.mem_range.2 hv), valG_in ⟨by omega, by omega⟩]
 have hb := hK2 k (by omega)
 have e1 : boxL (impl_reducedAt.cnt k (n : Int) es q) n = boxL (cntP es q) n := box_congr fun v hv' => by
  unfold impl_reducedAt.cnt cntP
  rw [hv v hv']
  rfl
 have hnn : ((n : Int)).toNat = n := Int.toNat_natCast n
 show impl_reducedAt.f k (n : Int) es q = some (redL n es q)
 unfold impl_reducedAt.f
 rw [if_pos]
 ·rw [hnn, e1]
  congr 1
  refine List.filter_congr fun x hx => ?_
  have hle := burn_le g x
  unfold impl_reducedAt.pr pB
  rw [hb x hx]
  show (!decide (((burnF n es (rd x) q).length : Int) < (n : Int))) = decide ((burnF n es (rd x) q).length = n)
  by_cases e : (burnF n es (rd x) q).length = n
  ·rw [decide_eq_true e, decide_eq_false (by omega)]; rfl
  ·rw [decide_eq_false e, decide_eq_true (by omega)]; rfl
 ·refine ⟨⟨by omega, fun v hv' => ?_⟩, fun x hx => ?_, ?_⟩
  ·rw [hnn] at hv'
   rw [hv v hv']
   have h0 : 0 ≤ val es (v : Int) := by
    by_cases e : (v : Int) = q
    ·exact val_nonneg es _
    ·have := val_ge g hv' e; omega
   have := val_bd g (v : Int)
   exact ⟨rfl, by simpa using h0, by simp only [Option.getD_some]; omega⟩
  ·rw [hnn, e1] at hx
   rw [hb x hx]
   rfl
  ·rw [hnn, e1]
   exact box_pos g
end
theorem implGO {n : Nat} {es : List E} (hg : GOk (n : Int) es) : Ep (fun k => impl_GroupOrder.f k (n : Int) es) (· = dlap es (vsL n 0)) := by
 simp only [impl_GroupOrder.f]
 refine Ep.bind (implCountTrees hg) ?_
 rintro _ rfl
 exact Ep.now rfl
theorem specGO {n : Nat} {es : List E} (hg : GOk (n : Int) es) : Ep (fun k => spec_GroupOrder.f k (n : Int) es) (· = dlap es (vsL n 0)) := by
 simp only [spec_GroupOrder.f]
 refine Ep.bind (specCountTrees hg) ?_
 rintro _ rfl
 exact Ep.now rfl
end Go.Proofs.Ytnbljcgdgblgoaa.Cf
end

section
namespace Go.Proofs.Ytnbljcgdgblgoaa.Cf
set_option linter.unusedVariables false
set_option linter.unusedSimpArgs false
open Go.RowKit Go.Proofs.YtnbljcgdgblgoaaW.PrintWords Go.Proofs.Ytnbljcgdgblgoaa.P
theorem kpos_in {α : Type} {lt : α → α → Bool} {x : α} {Z : List α} : ∀ k, k ≤ Z.length → ∀ j (h : j < Z.length), kpos lt x Z k ≤ j → j < k → lt x Z[j] = true
 | 0, _, _, _, _, h2 => absurd h2 (by omega)
 | k + 1, hk, j, h, h1, h2 => by
  rw [kpos_at lt x (List.getElem?_eq_getElem (show k < Z.length by omega))] at h1
  by_cases c : lt x Z[k] = true
  ·rw [if_pos c] at h1
   by_cases e : j = k
   ·subst e
    exact c
   ·exact kpos_in k (by omega) j h h1 (by omega)
  ·rw [if_neg c] at h1
   omega
theorem kpos_off {α : Type} {lt : α → α → Bool} {x : α} {Z : List α} : ∀ k, k ≤ Z.length → ∀ j (h : j < Z.length), j + 1 = kpos lt x Z k → lt x Z[j] = false
 | 0, _, _, _, e => by
  unfold kpos at e
  omega
 | k + 1, hk, j, h, e => by
  rw [kpos_at lt x (List.getElem?_eq_getElem (show k < Z.length by omega))] at e
  by_cases c : lt x Z[k] = true
  ·rw [if_pos c] at e
   exact kpos_off k (by omega) j h e
  ·rw [if_neg c] at e
   obtain rfl : j = k := by omega
   exact Bool.eq_false_iff.2 c
theorem ins_srt {α : Type} {lt : α → α → Bool} {le : α → α → Prop} {x : α} {Z : List α} (ht : ∀ a b c, le a b → le b c → le a c) (hy : ∀ y ∈ Z, lt x y = true → le x y) (hn : ∀ y ∈ Z, lt x y = false → le y x) (hZ : Z.Pairwise le) : (insB lt x Z).Pairwise le := by
 have hp := kpos_le lt x Z Z.length
 have h1 := kpos_in (lt := lt) (x := x) (Z := Z) Z.length (Nat.le_refl _)
 have h2 := kpos_off (lt := lt) (x := x) (Z := Z) Z.length (Nat.le_refl _)
 unfold insB
 generalize kpos lt x Z Z.length = p at hp h1 h2
 have hidx := List.pairwise_iff_getElem.1 hZ
 rw [List.pairwise_append, List.pairwise_cons]
 refine ⟨hZ.sublist (List.take_sublist _ _), ⟨fun y hy2 => ?_, hZ.sublist (List.drop_sublist _ _)⟩, fun a ha b hb => ?_⟩
 ·obtain ⟨j, hj, rfl⟩ := List.getElem_of_mem hy2
  rw [List.length_drop] at hj
  rw [List.getElem_drop]
  exact hy _ (List.getElem_mem _) (h1 (p + j) (by omega) (by omega) (by omega))
 ·obtain ⟨i, hi, rfl⟩ := List.getElem_of_mem ha
  rw [List.length_take] at hi
  rw [List.getElem_take]
  rcases List.mem_cons.1 hb with rfl | hb
  ·have h3 := hn _ (List.getElem_mem (show p - 1 < Z.length by omega)) (h2 (p - 1) (by omega) (by omega))
   by_cases e : i = p - 1
   ·subst e
    exact h3
   ·exact ht _ _ _ (hidx i (p - 1) (by omega) (by omega) (by omega)) h3
  ·obtain ⟨j, hj, rfl⟩ := List.getElem_of_mem hb
   rw [List.length_drop] at hj
   rw [List.getElem_drop]
   exact hidx i (p + j) (by omega) (by omega) (by omega)
theorem sort_srt {α : Type} {lt : α → α → Bool} {le : α → α → Prop} {l : List α} (ht : ∀ a b c, le a b → le b c → le a c) (hy : ∀ x ∈ l, ∀ y ∈ l, lt x y = true → le x y) (hn : ∀ x ∈ l, ∀ y ∈ l, lt x y = false → le y x) : ∀ i, i ≤ l.length → (sortB lt l i).Pairwise le
 | 0, _ => List.Pairwise.nil
 | i + 1, hi => by
  have hlt : i < l.length := by omega
  rw [sortB_succ lt (List.getElem?_eq_getElem hlt)]
  have hm : ∀ y ∈ sortB lt l i, y ∈ l := fun y hy2 => List.mem_of_mem_take ((sortB_perm lt l i (by omega)).mem_iff.1 hy2)
  exact ins_srt ht (fun y h => hy _ (List.getElem_mem hlt) y (hm y h)) (fun y h => hn _ (List.getElem_mem hlt) y (hm y h)) (sort_srt ht hy hn i (by omega))
theorem lexB_C : ∀ {a b : List Int}, a.length = b.length → lexB a b = decide (lexC a b < 0)
 | [], [], _ => rfl
 | [], _ :: _, h => by simp at h
 | _ :: _, [], h => by simp at h
 | x :: xs, y :: ys, h => by
  unfold lexB lexC
  by_cases e : x = y
  ·rw [if_pos e, if_pos e]
   exact lexB_C (by simpa using h)
  ·rw [if_neg e, if_neg e]
   by_cases c : x < y
   ·rw [if_pos c, decide_eq_true c]
    rfl
   ·rw [if_neg c, decide_eq_false c]
    rfl
theorem cmpK (a b : Int) : cmp_Compare_int.f a b = some (if a < b then -1 else if a > b then 1 else 0) := by
 by_cases h1 : a < b
 ·simp [cmp_Compare_int.f, cmp_isNaN_int.f, h1]
 ·by_cases h2 : b < a <;> simp [cmp_Compare_int.f, cmp_isNaN_int.f, h1, h2]
theorem cmp_l0 (a b : List Int) (hl : a.length = b.length) (hb : a.length ≤ 1000) : ∀ (d i : Nat), i + d = a.length → Ep (fun k => slices_Compare_int_int.l0 k a b a (a.length : Int) (i : Int)) (· = lexC (a.drop i) (b.drop i)) := by
 intro d
 induction d with
 | zero =>
  intro i hi
  refine Ep.up ?_
  simp only [slices_Compare_int_int.l0]
  refine Ep.neg (by omega) (Ep.neg (by omega) (Ep.now ?_))
  rw [List.drop_eq_nil_of_le (by omega), List.drop_eq_nil_of_le (by omega)]
  rfl
 | succ d ih =>
  intro i hi
  have h := ih (i + 1) (by omega)
  have ha : i < a.length := by omega
  have hb2 : i < b.length := by omega
  refine Ep.up ?_
  simp only [slices_Compare_int_int.l0]
  refine Ep.pos (by omega) (Ep.pos (by omega) (Ep.pos (by omega) (Ep.neg (by omega) (Ep.pos (by omega) (Ep.bind0 (cmpK _ _) ?_)))))
  rw [List.drop_eq_getElem_cons ha, List.drop_eq_getElem_cons hb2, rd_get ha, rd_get hb2, wrap_succ (by omega)]
  by_cases e : a[i] = b[i]
  ·refine Ep.pos (by rw [if_neg (by omega), if_neg (by omega)]) (h.mono fun r hr => hr.trans ?_)
   show _ = if a[i] = b[i] then _ else _
   rw [if_pos e]
  ·refine Ep.neg (by split; omega; split; omega; omega) (Ep.now ?_)
   show _ = if a[i] = b[i] then _ else _
   rw [if_neg e]
   by_cases c : a[i] < b[i]
   ·rw [if_pos c, if_pos c]
   ·rw [if_neg c, if_neg c, if_pos (by omega)]
theorem cmpC (a b : List Int) (hl : a.length = b.length) (hb : a.length ≤ 1000) : Ep (fun k => slices_Compare_int_int.f k a b) (· = lexC a b) := by
 simp only [slices_Compare_int_int.f]
 exact cmp_l0 a b hl hb a.length 0 (by omega)
theorem pairs_mem {L : List (List Int)} {x y : List Int} (hx : x ∈ L) (hy : y ∈ L) : (x, y) ∈ L.flatMap fun x => L.map fun y => (x, y) := List.mem_flatMap.2 ⟨x, hx, List.mem_map.2 ⟨y, hy, rfl⟩⟩
theorem cmp_all {L : List (List Int)} {n : Nat} (hn : n ≤ 1000) (hr : ∀ x ∈ L, x.length = n) : ∃ K, ∀ k, K ≤ k → ∀ x ∈ L, ∀ y ∈ L, slices_Compare_int_int.f k x y = some (lexC x y) := by
 obtain ⟨K, hK⟩ := Ep.all (f := fun k (p : List Int × List Int) => slices_Compare_int_int.f k p.1 p.2) (g := fun p => lexC p.1 p.2) (L.flatMap fun x => L.map fun y => (x, y)) (by
  intro p hp
  obtain ⟨x, hx, hp⟩ := List.mem_flatMap.1 hp
  obtain ⟨y, hy, rfl⟩ := List.mem_map.1 hp
  exact cmpC x y ((hr x hx).trans (hr y hy).symm) (by rw [hr x hx]; exact hn))
 exact ⟨K, fun k hk x hx y hy => hK k hk (x, y) (pairs_mem hx hy)⟩
theorem specSortL {L : List (List Int)} {n : Nat} (hn : n ≤ 1000) (hr : ∀ x ∈ L, x.length = n) (hl : L.length ≤ 1000000) : Ep (fun k => spec_l09Sort.f k L) (· = sortL L) := by
 obtain ⟨K, hK⟩ := Ep.all (f := fun k (p : List Int × List Int) => spec_l09Less.f k p.1 p.2) (g := fun p => lexB p.1 p.2) (L.flatMap fun x => L.map fun y => (x, y)) (by
  intro p hp
  obtain ⟨x, hx, hp⟩ := List.mem_flatMap.1 hp
  obtain ⟨y, hy, rfl⟩ := List.mem_map.1 hp
  exact specLess x y ((hr x hx).trans (hr y hy).symm) (by rw [hr x hx]; exact hn))
 have hK2 : ∀ k, K ≤ k → ∀ x ∈ L, ∀ y ∈ L, spec_l09Less.f k x y = some (lexB x y) := fun k hk x hx y hy => hK k hk (x, y) (pairs_mem hx hy)
 refine ⟨_, rfl, K, fun k hk => ?_⟩
 show spec_l09Sort.f k L = some (sortL L)
 unfold spec_l09Sort.f
 rw [if_pos ⟨hl, fun x hx y hy => by rw [hK2 k hk x hx y hy]; rfl⟩]
 congr 1
 have hlt : ∀ x ∈ L, ∀ y ∈ L, spec_l09Sort.lt k x y = decide (lexC x y < 0) := fun x hx y hy => by
  unfold spec_l09Sort.lt
  rw [hK2 k hk x hx y hy, lexB_C ((hr x hx).trans (hr y hy).symm)]
  cases decide (lexC x y < 0) <;> rfl
 refine sortL_eq ?_ ?_
 ·have h := sortB_perm (spec_l09Sort.lt k) L L.length (Nat.le_refl _)
  rwa [List.take_length] at h
 ·refine sort_srt (le := fun x y => lexC x y ≤ 0) (fun a b c h1 h2 => lexC_le h1 h2) (fun x hx y hy h => ?_) (fun x hx y hy h => ?_) L.length (Nat.le_refl _)
  ·rw [hlt x hx y hy] at h
   have := of_decide_eq_true h
   omega
  ·rw [hlt x hx y hy] at h
   have := of_decide_eq_false h
   have := lexC_neg x y
   omega
def clR (x : List Int) : List Int := x.set 0 (-x.sum)
def clL (n : Nat) (es : List E) : List (List Int) := (redL n es 0).map clR
theorem offRed {n : Nat} {es : List E} {q : Int} {d d' : Int → Int} (h : Red n es q d) (he : ∀ v : Int, 0 ≤ v → v < n → v ≠ q → d v = d' v) : Red n es q d' := by
 refine ⟨fun v h0 h1 h2 => by rw [← he v h0 h1 h2]; exact h.1 v h0 h1 h2, fun S hS hx => ?_⟩
 obtain ⟨v, h0, h1, h2, h3⟩ := h.2 S hS hx
 exact ⟨v, h0, h1, h2, by rw [← he v h0 h1 (fun e => by rw [e, hS] at h2; cases h2)]; exact h3⟩
theorem redBurn {n : Nat} {es : List E} {q : Int} (g : Gr n es q) {d : Int → Int} (h0 : ∀ v : Int, 0 ≤ v → v < n → v ≠ q → 0 ≤ d v) : (burnF n es d q).length = n ↔ Red n es q d := by
 have hb := burnF_ok (es := es) (d := d) g.hq
 constructor
 ·intro h
  exact hb.1.red g.hes g.hq h h0
 ·intro h
  have hlen := hb.1.len g.hq
  apply Classical.byContradiction
  intro hc
  obtain ⟨v, v0, v1, v2, v3⟩ := Red.burns g.hes g.hq hb.1 h (by omega)
  have := hb.2 v v0 v1 v2
  omega
section
variable {n : Nat} {es : List E}
theorem box_ge {c : Nat → Nat} {x : List Int} {m : Nat} (h : x ∈ boxL c m) (v : Int) (h0 : 0 ≤ v) (h1 : v < m) : 0 ≤ rd x v := by
 obtain ⟨v, rfl⟩ := Int.eq_ofNat_of_zero_le h0
 obtain ⟨h2, h3⟩ := boxL_row h
 have hlt : v < x.length := by omega
 rw [rd_get hlt]
 exact (h3 v hlt).1
theorem box_zero (g : Gr n es 0) {x : List Int} (h : x ∈ boxL (cntP es 0) n) : x.getD 0 0 = 0 ∧ 0 < x.length := by
 have hq := g.hq
 obtain ⟨h1, h2⟩ := boxL_row h
 have hl : 0 < x.length := by omega
 have h3 := h2 0 hl
 have h4 : cntP es 0 0 = 1 := by unfold cntP; rw [if_pos (by omega)]
 rw [h4] at h3
 rw [List.getD_eq_getElem?_getD, List.getElem?_eq_getElem hl]
 simp only [Option.getD_some]
 omega
theorem box_sum (g : Gr n es 0) {x : List Int} (h : x ∈ boxL (cntP es 0) n) : (x.drop 1).sum = x.sum ∧ 0 ≤ x.sum ∧ x.sum ≤ 72 ∧ Mod x ∧ x.length = n := by
 obtain ⟨h1, h2⟩ := boxL_row h
 obtain ⟨h3, h4⟩ := box_zero g h
 have h6 := g.n6
 have hb : ∀ y ∈ x, 0 ≤ y ∧ y ≤ 12 := by
  intro y hy
  obtain ⟨j, hj, rfl⟩ := List.getElem_of_mem hy
  have := h2 j hj
  have := cntP_le g j
  omega
 have hs : ∀ l : List Int, (∀ y ∈ l, 0 ≤ y ∧ y ≤ 12) → 0 ≤ l.sum ∧ l.sum ≤ 12 * (l.length : Int) := by
  intro l
  induction l with
  | nil => intro _; simp
  | cons a l ih =>
   intro hl
   have h5 := ih fun y hy => hl y (List.mem_cons_of_mem _ hy)
   have h7 := hl a List.mem_cons_self
   rw [List.sum_cons, List.length_cons]
   omega
 have h5 := hs x hb
 refine ⟨?_, by omega, by omega, fun y hy => by have := hb y hy; omega, h1⟩
 cases x with
 | nil => simp at h4
 | cons a l =>
  have ha : a = 0 := h3
  rw [List.drop_one, List.tail_cons, List.sum_cons, ha]
  omega
theorem clR_rd {x : List Int} {v : Int} (h0 : 0 ≤ v) (hv : v ≠ 0) : rd x v = rd (clR x) v := by
 obtain ⟨v, rfl⟩ := Int.eq_ofNat_of_zero_le h0
 rw [rd_nat, rd_nat]
 unfold clR
 rw [List.getD_eq_getElem?_getD, List.getD_eq_getElem?_getD, List.getElem?_set_ne (by omega)]
theorem clR_len (x : List Int) : (clR x).length = x.length := by unfold clR; rw [List.length_set]
theorem burn_clR (g : Gr n es 0) {x : List Int} (h : x ∈ boxL (cntP es 0) n) : decide ((burnF n es (rd (clR x)) 0).length = n) = pB n es 0 x := by
 unfold pB
 rw [decide_eq_decide]
 have h1 := redBurn g (d := rd x) fun v v0 v1 _ => box_ge h v v0 v1
 have h2 := redBurn g (d := rd (clR x)) fun v v0 v1 v2 => by rw [← clR_rd v0 v2]; exact box_ge h v v0 v1
 rw [h1, h2]
 exact ⟨fun h => offRed h fun v v0 _ v2 => (clR_rd v0 v2).symm, fun h => offRed h fun v v0 _ v2 => clR_rd v0 v2⟩
theorem clL_len (g : Gr n es 0) : (clL n es).length ≤ 248832 := by unfold clL; rw [List.length_map]; exact redL_len g
theorem clL_row {x : List Int} (h : x ∈ clL n es) : x.length = n := by
 obtain ⟨y, hy, rfl⟩ := List.mem_map.1 h
 rw [clR_len]
 exact (redL_mem hy).1
theorem redL_box {q : Int} {x : List Int} (h : x ∈ redL n es q) : x ∈ boxL (cntP es q) n := (List.mem_filter.1 h).1
theorem implClL (g : Gr n es 0) : Ep (fun k => if impl_ClassesOf.ok k (redL n es 0) then some (sortL (impl_ClassesOf.rows k (redL n es 0)), true) else none) (· = (sortL (clL n es), true)) := by
 have h6 := g.n6
 obtain ⟨K1, hK1⟩ := Ep.all (f := fun k x => impl_sumOf.f k x) (g := fun x => x.sum) (redL n es 0) fun x hx => implSum x (by have := (redL_mem hx).1; omega) (box_sum g (redL_box hx)).2.2.2.1
 obtain ⟨K2, hK2⟩ := cmp_all (L := clL n es) (n := n) (by omega) fun x hx => clL_row hx
 refine ⟨_, rfl, max K1 K2, fun k hk => ?_⟩
 have e : impl_ClassesOf.rows k (redL n es 0) = clL n es := by
  unfold impl_ClassesOf.rows clL
  refine List.map_congr_left fun x hx => ?_
  have hs := box_sum g (redL_box hx)
  unfold impl_ClassesOf.row clR
  rw [hK1 k (by omega) x hx]
  show x.set 0 (wrap64 (-x.sum)) = _
  rw [wrap_id (by omega) (by omega)]
 have hl := redL_len g
 show (if impl_ClassesOf.ok k (redL n es 0) then _ else _) = _
 rw [if_pos, e]
 refine ⟨fun x hx => ⟨by rw [hK1 k (by omega) x hx]; rfl, (box_zero g (redL_box hx)).2, by have := (redL_mem hx).1; omega⟩, by omega, ?_⟩
 rw [e]
 exact hK2 k (by omega)
theorem dfs_one {c : Nat → Nat} (h : c 0 = 1) (r : Nat) : dfsB c (r + 1) 0 [] = dfsB c r 1 [0] := by
 show (extB (c 0) []).flatMap (dfsB c r (0 + 1)) = _
 rw [h]
 show [[(0 : Int)]].flatMap (dfsB c r 1) = _
 rw [List.flatMap_cons, List.flatMap_nil, List.append_nil]
theorem dfs_cgr {c d : Nat → Nat} : ∀ (r v : Nat) (s : List Int), (∀ u, v ≤ u → u < v + r → c u = d u) → dfsB c r v s = dfsB d r v s
 | 0, _, _, _ => rfl
 | r + 1, v, s, h => by
  show (extB (c v) s).flatMap (dfsB c r (v + 1)) = (extB (d v) s).flatMap (dfsB d r (v + 1))
  rw [h v (Nat.le_refl _) (by omega), show dfsB c r (v + 1) = dfsB d r (v + 1) from funext fun t => dfs_cgr r (v + 1) t fun u h1 h2 => h u (by omega) (by omega)]
theorem specBoxes (g : Gr n es 0) : Ep (fun k => spec_l09Boxes.f k (n : Int) es) (· = clL n es) := by
 have h6 := g.n6
 have hel := g.hel
 have hq := g.hq
 obtain ⟨K1, hK1⟩ := Ep.all (f := fun k (v : Nat) => spec_Valence.f k (n : Int) es (v : Int)) (g := fun v => valG (n : Int) es (v : Int)) (List.range n) fun v _ => specValence (n : Int) es (v : Int) (by omega)
 obtain ⟨K2, hK2⟩ := Ep.all (f := fun k x => spec_l05Burn.f k (n : Int) es (clR x) 0) (g := fun x => burnF n es (rd (clR x)) 0) (boxL (cntP es 0) n) fun x hx => specBurn g (clR x) (by rw [clR_len]; exact (boxL_row hx).1)
 obtain ⟨K3, hK3⟩ := Ep.all (f := fun k (x : List Int) => spec_DegreeOf.f k (x.drop 1)) (g := fun x => (x.drop 1).sum) (boxL (cntP es 0) n) fun x hx => specSum (x.drop 1) (by have := (boxL_row hx).1; rw [List.length_drop]; omega) fun y hy => (box_sum g hx).2.2.2.1 y (List.mem_of_mem_drop hy)
 refine ⟨_, rfl, max K1 (max K2 K3), fun k hk => ?_⟩
 have hv : ∀ v, v < n → spec_Valence.f k (n : Int) es (v : Int) = some (val es (v : Int)) := fun v hv => by rw [hK1 k (by omega) v (List.mem_range.2 hv), valG_in ⟨by omega, by omega⟩]
 have hb := hK2 k (by omega)
 have hs := hK3 k (by omega)
 have hnn : ((n : Int)).toNat = n := Int.toNat_natCast n
 have e1 : dfsB (spec_l09Boxes.cnt k (n : Int) es) (n - 1) 1 [0] = boxL (cntP es 0) n := by
  obtain ⟨r, rfl⟩ : ∃ r, n = r + 1 := ⟨n - 1, by omega⟩
  rw [← dfs_box, dfs_one (by unfold cntP; rw [if_pos (by omega)]), Nat.add_sub_cancel]
  refine dfs_cgr _ _ _ fun v h1 h2 => ?_
  unfold spec_l09Boxes.cnt cntP
  rw [hv v (by omega), if_neg (by omega)]
  have := val_ge g (v := v) (by omega) (by omega)
  show (mx 1 (val es (v : Int))).toNat = _
  unfold mx
  split <;> omega
 have e2 : ∀ x ∈ boxL (cntP es 0) n, spec_l09Boxes.lf k x = clR x := fun x hx => by
  have h := box_sum g hx
  unfold spec_l09Boxes.lf clR
  rw [hs x hx]
  show x.set 0 (wrap64 (-((x.drop 1).sum))) = _
  rw [h.1, wrap_id (by omega) (by omega)]
 show spec_l09Boxes.f k (n : Int) es = some (clL n es)
 unfold spec_l09Boxes.f
 rw [if_pos]
 ·rw [hnn, e1, List.map_congr_left e2]
  congr 1
  unfold clL redL
  rw [List.filter_map]
  congr 1
  refine List.filter_congr fun x hx => ?_
  show spec_l09Boxes.pr k (n : Int) es (clR x) = _
  unfold spec_l09Boxes.pr
  rw [hb x hx, ← burn_clR g hx]
  show decide (((burnF n es (rd (clR x)) 0).length : Int) = (n : Int)) = decide ((burnF n es (rd (clR x)) 0).length = n)
  by_cases e : (burnF n es (rd (clR x)) 0).length = n
  ·rw [decide_eq_true e, decide_eq_true (by omega)]
  ·rw [decide_eq_false e, decide_eq_false (by omega)]
 ·refine ⟨⟨by omega, fun v hv' => ?_⟩, fun x hx => ?_⟩
  ·rw [hnn] at hv'
   rw [hv v hv']
   have h0 : 0 ≤ val es (v : Int) := by
    by_cases e : (v : Int) = 0
    ·exact val_nonneg es _
    ·have := val_ge g hv' e; omega
   have := val_bd g (v : Int)
   exact ⟨rfl, by simpa using h0, by simp only [Option.getD_some]; omega⟩
  ·rw [hnn, e1] at hx
   rw [e2 x hx, hb x hx, hs x hx]
   exact ⟨rfl, rfl⟩
end
open Classical in
noncomputable def clO (n : Int) (es : List E) : List (List Int) × Bool := if gOk n es = true ∧ dlap es (vsL n.toNat 0) ≤ 400 then (sortL (clL n.toNat es), true) else ([], false)
theorem implCl (n : Int) (es : List E) (hn : Wf .i64 n) : Ep (fun k => impl_ClassesOf.f k n es) (· = clO n es) := by
 simp only [impl_ClassesOf.f]
 refine Ep.bind0 (implGraph n es) ?_
 unfold clO
 by_cases c : gOk n es = true
 ·have hg := gOk_iff.1 c
  have hG := hg.1
  unfold EsOk at hG
  obtain ⟨m, rfl⟩ := Int.eq_ofNat_of_zero_le (show 0 ≤ n by omega)
  have g : Gr m es 0 := Gr.of hg (by omega)
  simp only [Int.toNat_natCast]
  refine Ep.pos c (Ep.bind (implGO hg) ?_)
  rintro _ rfl
  by_cases h4 : dlap es (vsL m 0) ≤ 400
  ·rw [if_pos ⟨c, h4⟩]
   refine Ep.pos h4 (Ep.bind (implRed g) ?_)
   rintro _ rfl
   exact implClL g
  ·rw [if_neg fun h => h4 h.2]
   exact Ep.neg h4 (Ep.now rfl)
 ·rw [if_neg fun h => c h.1]
  exact Ep.neg c (Ep.now rfl)
theorem specCl (n : Int) (es : List E) : Ep (fun k => spec_ClassesOf.f k n es) (· = clO n es) := by
 simp only [spec_ClassesOf.f]
 refine Ep.bind (specGraph _ _) ?_
 rintro _ rfl
 unfold clO
 by_cases c : gOk n es = true
 ·have hg := gOk_iff.1 c
  have hG := hg.1
  unfold EsOk at hG
  obtain ⟨m, rfl⟩ := Int.eq_ofNat_of_zero_le (show 0 ≤ n by omega)
  have g : Gr m es 0 := Gr.of hg (by omega)
  have h6 := g.n6
  simp only [Int.toNat_natCast]
  refine Ep.pos c (Ep.bind (specGO hg) ?_)
  rintro _ rfl
  by_cases h4 : dlap es (vsL m 0) ≤ 400
  ·rw [if_pos ⟨c, h4⟩]
   refine Ep.pos h4 (Ep.bind (specBoxes g) ?_)
   rintro _ rfl
   refine Ep.bind (specSortL (L := clL m es) (n := m) (by omega) (fun x hx => clL_row hx) (by have := clL_len g; omega)) ?_
   rintro _ rfl
   exact Ep.now rfl
  ·rw [if_neg fun h => h4 h.2]
   exact Ep.neg h4 (Ep.now rfl)
 ·rw [if_neg fun h => c h.1]
  exact Ep.neg c (Ep.now rfl)
theorem clO_small (n : Int) (es : List E) : (clO n es).1.length ≤ 248832 ∧ ∀ r ∈ (clO n es).1, r.length ≤ 6 := by
 unfold clO
 split
 ·rename_i h
  have hg := gOk_iff.1 h.1
  have hG := hg.1
  unfold EsOk at hG
  obtain ⟨m, rfl⟩ := Int.eq_ofNat_of_zero_le (show 0 ≤ n by omega)
  have g : Gr m es 0 := Gr.of hg (by omega)
  rw [Int.toNat_natCast]
  exact ⟨by rw [sortL_len]; exact clL_len g, fun r hr => by have h1 := clL_row (sortL_mem.1 hr); have := g.n6; omega⟩
 ·exact ⟨Nat.zero_le _, fun s hs => absurd hs List.not_mem_nil⟩
end Go.Proofs.Ytnbljcgdgblgoaa.Cf
end

section
namespace Go.Proofs.Ytnbljcgdgblgoaa.Cf
set_option linter.unusedVariables false
set_option linter.unusedSimpArgs false
open Go.RowKit Go.Proofs.YtnbljcgdgblgoaaW.PrintWords Go.Proofs.Ytnbljcgdgblgoaa.P
theorem rdL_get {l : List (List Int)} {i : Nat} (h : i < l.length) : rd_L3 l (i : Int) = l[i] := by simp [rd_L3, List.getD, h]
def Small (l : List (List Int)) : Prop := l.length ≤ 1048576 ∧ ∀ r ∈ l, r.length ≤ 1048576
theorem eqIntSS_l0 (x : List (List Int)) (h : Small x) : ∀ (d i : Nat), i + d = x.length → Ep (fun k => laws_eqIntSS.l0 k x x (i : Int)) (· = true) := by
 intro d
 have := h.1
 induction d with
 | zero =>
  intro i hi
  refine Ep.up ?_
  simp only [laws_eqIntSS.l0]
  exact Ep.neg (by omega) (Ep.now rfl)
 | succ d ih =>
  intro i hi
  have hlt : i < x.length := by omega
  refine Ep.up ?_
  simp only [laws_eqIntSS.l0]
  refine Ep.pos (by omega) (Ep.pos (by omega) (Ep.pos (by omega) ?_))
  rw [rdL_get hlt, wrap_succ (by omega)]
  refine Ep.bind (eqIntS_ok _ (h.2 _ (List.getElem_mem hlt))) ?_
  rintro _ rfl
  exact Ep.pos rfl (ih (i + 1) (by omega))
theorem eqIntSS_ok (x : List (List Int)) (h : Small x) : Ep (fun k => laws_eqIntSS.f k x x) (· = true) := by
 simp only [laws_eqIntSS.f]
 exact Ep.pos trivial (eqIntSS_l0 x h x.length 0 (by omega))
def mksL : List (List Int) → Int → List (List Int)
 | [], _ => []
 | x :: xs, a => marks a x.length :: mksL xs (a + x.length)
def mksE : List (List Int) → Int → Int
 | [], a => a
 | x :: xs, a => mksE xs (a + x.length)
theorem mksE_ge : ∀ (l : List (List Int)) (a : Int), a ≤ mksE l a
 | [], a => Int.le_refl _
 | x :: xs, a => by
  have := mksE_ge xs (a + x.length)
  show a ≤ mksE xs (a + x.length)
  omega
theorem mksL_len : ∀ (l : List (List Int)) (a : Int), (mksL l a).length = l.length
 | [], a => rfl
 | x :: xs, a => by show (mksL xs (a + x.length)).length + 1 = xs.length + 1; rw [mksL_len xs]
theorem markSSR_go (l : List (List Int)) : ∀ (a : Int) (m : Nat), (∀ r ∈ l, r.length ≤ 1048576) → m + l.length ≤ 1048576 → 0 ≤ a → a ≤ 1 + (m : Int) * 1048576 → Ep (fun k => laws_markIntSS.goR k l a) (· = (mksL l a, mksE l a)) := by
 induction l with
 | nil =>
  intro a m _ _ h0 _
  simp only [laws_markIntSS.goR]
  exact Ep.now rfl
 | cons x l ih =>
  intro a m hr hl h0 h1
  rw [List.length_cons] at hl
  have hx := hr x List.mem_cons_self
  simp only [laws_markIntSS.goR]
  refine Ep.bind (markIntS_ok x a hx ⟨h0, by omega⟩) ?_
  rintro _ rfl
  refine Ep.bind (ih (a + x.length) (m + 1) (fun r h => hr r (List.mem_cons_of_mem _ h)) (by omega) (by omega) (by omega)) ?_
  rintro _ rfl
  exact Ep.now rfl
theorem markSSR_ok (l : List (List Int)) (h : Small l) : Ep (fun k => laws_markIntSS.fR k l 1) (· = (mksL l 1, mksE l 1)) := by
 have h1 := h.1
 simp only [laws_markIntSS.fR]
 exact Ep.pos h1 (markSSR_go l 1 0 h.2 (by omega) (by omega) (by omega))
theorem heldSS_l0 (R : List (List Int)) (hR : R.length ≤ 1048576) (l : List (List Int)) : ∀ (a : Int) (i : Nat), i + l.length = R.length → R.drop i = mksL l a → (∀ r ∈ l, r.length ≤ 1048576) → 0 ≤ a → a ≤ 1 + (i : Int) * 1048576 → Ep (fun k => laws_heldIntSS.l0 k R a (i : Int)) (· = mksE l a) := by
 induction l with
 | nil =>
  intro a i hi hd hr h0 h1
  rw [List.length_nil] at hi
  refine Ep.up ?_
  simp only [laws_heldIntSS.l0]
  exact Ep.neg (by omega) (Ep.now rfl)
 | cons x l ih =>
  intro a i hi hd hr h0 h1
  rw [List.length_cons] at hi
  have hlt : i < R.length := by omega
  have hd2 : R[i] :: R.drop (i + 1) = marks a x.length :: mksL l (a + x.length) := by
   rw [← List.drop_eq_getElem_cons hlt, hd]
   rfl
  injection hd2 with e1 e2
  have hx := hr x List.mem_cons_self
  have e : rd_L3 R (i : Int) = marks a x.length := by rw [rdL_get hlt, e1]
  have h := ih (a + x.length) (i + 1) (by omega) e2 (fun r h => hr r (List.mem_cons_of_mem _ h)) (by omega) (by omega)
  refine Ep.up ?_
  simp only [laws_heldIntSS.l0]
  refine Ep.pos (by omega) (Ep.pos (by omega) ?_)
  rw [e, wrap_succ (by omega)]
  refine Ep.bind (heldIntS_ok x.length a hx ⟨h0, by omega⟩) ?_
  rintro _ rfl
  exact Ep.neg (by omega) h
theorem heldSS_ok (l : List (List Int)) (h : Small l) : Ep (fun k => laws_heldIntSS.f k (mksL l 1) 1) (· = mksE l 1) := by
 have h1 := h.1
 simp only [laws_heldIntSS.f]
 exact heldSS_l0 (mksL l 1) (by rw [mksL_len]; exact h1) l 1 0 (by rw [mksL_len, Nat.zero_add]) rfl h.2 (by omega) (by omega)
theorem mksE_pos (l : List (List Int)) : ¬ mksE l 1 < 0 := by have := mksE_ge l 1; omega
def EWf (e : E) : Prop := Wf .i64 e.f0 ∧ Wf .i64 e.f1
theorem rdLE_get {es : List E} {i : Nat} (h : i < es.length) : rd_T101 es (i : Int) = es[i] := by simp [rd_T101, List.getD, h]
theorem szGraph_ok (n : Int) (es : List E) (a : Int) (ha : 0 ≤ a ∧ a ≤ 1048576) (hl : es.length ≤ 9223372036854775807) : ∃ t, laws_szGraph.f n es a = some t ∧ t ≤ 1048576 ∧ (¬ t < 0 → es.length ≤ 1048576) := by
 unfold laws_szGraph.f laws_szEdgeS.f
 rw [wrap_id (by omega) (by omega)]
 by_cases h : a - (es.length : Int) < 0
 ·refine ⟨-1, ?_, by omega, by omega⟩
  rw [if_pos h]
  simp
 ·refine ⟨a - es.length, ?_, by omega, by omega⟩
  rw [if_neg h]
  simp only [Option.bind_some]
  rw [if_neg h]
theorem toEdgeS_l0 (x0 : List E) (h : x0.length ≤ 1048576) : ∀ (d i : Nat) (x3 : List E), i + d = x0.length → x3.length = x0.length → (∀ j, j < i → x3[j]? = x0[j]?) → Ep (fun k => laws_toEdgeS.l0 k x0 x3 (i : Int)) (· = x0) := by
 intro d
 induction d with
 | zero =>
  intro i x3 hi hl hx
  refine Ep.up ?_
  simp only [laws_toEdgeS.l0]
  refine Ep.neg (by omega) (Ep.now ?_)
  apply List.ext_getElem?
  intro j
  by_cases hj : j < i
  ·exact hx j hj
  ·rw [List.getElem?_eq_none (by omega), List.getElem?_eq_none (by omega)]
 | succ d ih =>
  intro i x3 hi hl hx
  have hlt : i < x0.length := by omega
  refine Ep.up ?_
  simp only [laws_toEdgeS.l0]
  refine Ep.pos (by omega) (Ep.pos (by omega) ?_)
  rw [rdLE_get hlt, wrap_succ (by omega)]
  refine Ep.bind0 rfl (Ep.pos (by omega) ?_)
  refine ih (i + 1) _ (by omega) (by simpa using hl) ?_
  intro j hj
  rw [Int.toNat_natCast]
  by_cases e : i = j
  ·subst e
   rw [List.getElem?_set_self (by omega), List.getElem?_eq_getElem (by omega)]
  ·rw [List.getElem?_set_ne e]
   exact hx j (by omega)
theorem toGraph_ok (n : Int) (es : List E) (h : es.length ≤ 1048576) : Ep (fun k => laws_toGraph.f k n es) (· = (n, es)) := by
 simp only [laws_toGraph.f, laws_toEdgeS.f]
 refine Ep.bind (P := (· = es)) (Ep.pos (by omega) (Ep.pos (by simp; omega) ?_)) ?_
 ·exact toEdgeS_l0 es h es.length 0 _ (by omega) (by simp) (fun j hj => by omega)
 ·rintro _ rfl
  exact Ep.now rfl
theorem eqEdge_ok (a b : Int) : laws_eqEdge.f a b a b = some true := by simp [laws_eqEdge.f]
theorem eqEdgeS_l0 (x : List E) (h : x.length ≤ 1048576) : ∀ (d i : Nat), i + d = x.length → Ep (fun k => laws_eqEdgeS.l0 k x x (i : Int)) (· = true) := by
 intro d
 induction d with
 | zero =>
  intro i hi
  refine Ep.up ?_
  simp only [laws_eqEdgeS.l0]
  exact Ep.neg (by omega) (Ep.now rfl)
 | succ d ih =>
  intro i hi
  refine Ep.up ?_
  simp only [laws_eqEdgeS.l0]
  refine Ep.pos (by omega) (Ep.pos (by omega) (Ep.pos (by omega) ?_))
  rw [wrap_succ (by omega)]
  exact Ep.bind0 (eqEdge_ok _ _) (Ep.pos rfl (ih (i + 1) (by omega)))
theorem eqGraph_ok (n : Int) (es : List E) (h : es.length ≤ 1048576) : Ep (fun k => laws_eqGraph.f k n es n es) (· = true) := by
 simp only [laws_eqGraph.f]
 refine Ep.pos trivial (Ep.bind (P := (· = true)) ?_ ?_)
 ·simp only [laws_eqEdgeS.f]
  exact Ep.pos trivial (eqEdgeS_l0 es h es.length 0 (by omega))
 ·rintro _ rfl
  exact Ep.pos rfl (Ep.now rfl)
theorem markEdgeS_l0 (n : Nat) (hn : n ≤ 1048576) {B : Int} (hB : B ≤ 1099511627776) : ∀ (d i : Nat) (x : List E) (a : Int), i + d = n → x.length = n → 0 ≤ a → a + 2 * d ≤ B → Ep (fun k => laws_markEdgeS.l0 k x a (i : Int)) (fun r => 0 ≤ r.1 ∧ r.1 ≤ B) := by
 intro d
 induction d with
 | zero =>
  intro i x a hi hx h0 ha
  refine Ep.up ?_
  simp only [laws_markEdgeS.l0]
  exact Ep.neg (by omega) (Ep.now ⟨h0, by omega⟩)
 | succ d ih =>
  intro i x a hi hx h0 ha
  refine Ep.up ?_
  simp only [laws_markEdgeS.l0]
  refine Ep.pos (by omega) (Ep.pos (by omega) (Ep.bind0 rfl ?_))
  rw [wrap_succ (by omega), wrap_id (x := a + 1) (by omega) (by omega), wrap_id (x := a + 1 + 1) (by omega) (by omega)]
  exact ih (i + 1) _ _ (by omega) (by simpa using hx) (by omega) (by omega)
theorem markGraph_ok (n : Int) (es : List E) (a : Int) (h : es.length ≤ 1048576) (ha : 0 ≤ a ∧ a ≤ 1000) : Ep (fun k => laws_markGraph.f k n es a) (fun r => 0 ≤ r.1 ∧ r.1 ≤ 3000000) := by
 have := markEdgeS_l0 es.length h (B := 3000000) (by omega) es.length 0 es a (by omega) rfl ha.1 (by omega)
 simp only [laws_markGraph.f, laws_markEdgeS.f]
 refine Ep.bind this ?_
 intro r hr
 exact Ep.now hr
theorem law_FnExactClassesOf (n : Int) (es : List E) (hn : Wf .i64 n) (hes : SL EWf es) : Ep (fun k => laws_FnExactClassesOf.f k n es) (· = true) := by
 have hS : Small (clO n es).1 := ⟨by have := (clO_small n es).1; omega, fun r hr => by have := (clO_small n es).2 r hr; omega⟩
 simp only [laws_FnExactClassesOf.f]
 obtain ⟨t, ht, _, h2⟩ := szGraph_ok n es 1048576 (by omega) hes.1
 refine Ep.bind0 ht (Ep.ite (fun _ => Ep.now rfl) (fun hc2 => ?_))
 have hel := h2 hc2
 refine Ep.bind (toGraph_ok _ _ hel) ?_
 rintro _ rfl
 refine Ep.bind (specCl _ _) ?_
 rintro _ rfl
 refine Ep.bind (toGraph_ok _ _ hel) ?_
 rintro _ rfl
 refine Ep.bind (implCl _ _ hn) ?_
 rintro _ rfl
 simp only [laws_FnExactClassesOf.tail]
 refine Ep.bind (eqIntSS_ok _ hS) ?_
 rintro _ rfl
 refine Ep.pos rfl (Ep.pos (by first | rfl | trivial) (Ep.bind (toGraph_ok _ _ hel) ?_))
 rintro _ rfl
 refine Ep.bind (eqGraph_ok _ _ hel) ?_
 rintro _ rfl
 refine Ep.pos rfl (Ep.bind (markGraph_ok _ _ 1 hel (by omega)) ?_)
 intro r hr
 refine Ep.neg (by omega) (Ep.bind (eqIntSS_ok _ hS) ?_)
 rintro _ rfl
 refine Ep.pos rfl (Ep.bind (markSSR_ok _ hS) ?_)
 rintro _ rfl
 simp only [laws_FnExactClassesOf.tail2]
 refine Ep.bind (heldSS_ok _ hS) ?_
 rintro _ rfl
 refine Ep.neg (mksE_pos _) (Ep.pos (by first | rfl | trivial) (Ep.bind (toGraph_ok _ _ hel) ?_))
 rintro _ rfl
 refine Ep.bind (implCl _ _ hn) ?_
 rintro _ rfl
 refine Ep.bind (eqIntSS_ok _ hS) ?_
 rintro _ rfl
 refine Ep.pos rfl (Ep.pos (by first | rfl | trivial) (Ep.bind (heldSS_ok _ hS) ?_))
 rintro _ rfl
 exact Ep.neg (mksE_pos _) (Ep.pos (by first | rfl | trivial) (Ep.now rfl))
end Go.Proofs.Ytnbljcgdgblgoaa.Cf
end

