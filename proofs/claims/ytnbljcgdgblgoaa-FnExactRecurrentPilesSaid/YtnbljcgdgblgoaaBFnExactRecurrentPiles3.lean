/- A part of the proof of FnExactRecurrentPiles. -/
import Derived.Test.YtnbljcgdgblgoaaBFnExactRecurrentPiles2
import Derived.Test.YtnbljcgdgblgoaaBFnExactRecurrentPiles0
import Derived.Deep.RegionLaw
import Derived.Deep.LoopGhost
import Derived.Lib.Walk
import Derived.Lib.SliceRun
import Derived.Test.YtnbljcgdgblgoaaBFnExactRecurrentPiles1
import Derived.Shelf.SlSortCmp.NoneTotal
set_option maxHeartbeats 16000000
set_option maxRecDepth 1000000
section
namespace Go.Proofs.Ytnbljcgdgblgoaa.P
open Go.RowKit Go.Proofs.YtnbljcgdgblgoaaW.PrintWords Go.Proofs.YtnbljcgdgblgoaaW.PrintLast Go.Proofs.YtnbljcgdgblgoaaW.PrintMore
attribute [local go_sem] max2_int min2_int max_two min_two max_three min_three max_four min_four
set_option linter.unusedVariables false
set_option linter.unusedSimpArgs false
mutual
def impl_LaplacianOf.l0 : Nat → List (List Int) → Int → Int → List (S57) → Option ((List (List Int)))
 | 0, _, _, _, _ => none
 | k + 1, x3, x4, aM, aJ => if x4 < aM then (if 0 ≤ aM then (if (aM : Int).toNat ≤ 35184372088832 then ((some (List.replicate (aM : Int).toNat 0 : List Int)).bind fun fO => (impl_LaplacianOf.l1 k x3 x4 fO (fO.length : Int) 0 aM aJ)) else (none)) else (none)) else (some x3)
def impl_LaplacianOf.l1 : Nat → List (List Int) → Int → List Int → Int → Int → Int → List (S57) → Option ((List (List Int)))
 | 0, _, _, _, _, _, _, _ => none
 | k + 1, x3, x4, x5, rF, kT, aM, aJ => if kT < rF then ((impl_Multiplicity.f k aM aJ x4 kT).bind fun dU => (if 0 ≤ kT then (if kT < (x5.length : Int) then (impl_LaplacianOf.l1 k x3 x4 (x5.set (kT : Int).toNat (wrap64 (-dU))) rF (wrap64 (kT + 1)) aM aJ) else (none)) else (none))) else ((impl_Valence.f k aM aJ x4).bind fun fT => (if 0 ≤ x4 then (if x4 < (x5.length : Int) then (if x3.length < 5864062014805 then (impl_LaplacianOf.l0 k (x3 ++ [(x5.set (x4 : Int).toNat fT)]) (wrap64 (x4 + 1)) aM aJ) else (none)) else (none)) else (none)))
end
def impl_LaplacianOf.f (k : Nat) (aD : Int) (aA : List (S57)) : Option ((List (List Int))) := (impl_GraphOk.f aD aA).bind fun aZ => (if aZ = true then (impl_LaplacianOf.l0 k ([] : List (List Int)) 0 aD aA) else (some ([] : List (List Int))))
theorem impl_LaplacianOf.mono_l : ∀ k, (∀ y0 y1 y2 y3, LeO (impl_LaplacianOf.l0 k y0 y1 y2 y3) (impl_LaplacianOf.l0 (k + 1) y0 y1 y2 y3)) ∧ (∀ y0 y1 y2 y3 y4 y5 y6, LeO (impl_LaplacianOf.l1 k y0 y1 y2 y3 y4 y5 y6) (impl_LaplacianOf.l1 (k + 1) y0 y1 y2 y3 y4 y5 y6))
 | 0 => ⟨fun _ _ _ _ r h => by simp [impl_LaplacianOf.l0] at h, fun _ _ _ _ _ _ _ r h => by simp [impl_LaplacianOf.l1] at h⟩
 | k + 1 => by
  obtain ⟨ih0, ih1⟩ := impl_LaplacianOf.mono_l k
  refine ⟨?_, ?_⟩
  ·intro y0 y1 y2 y3
   unfold impl_LaplacianOf.l0
   exact zm8
  ·intro y0 y1 y2 y3 y4 y5 y6
   unfold impl_LaplacianOf.l1
   exact zm8
theorem impl_LaplacianOf.mono : ∀ a0 a1 k, LeO (impl_LaplacianOf.f k a0 a1) (impl_LaplacianOf.f (k + 1) a0 a1) := by
 intro a0 a1 k; obtain ⟨ih0, ih1⟩ := impl_LaplacianOf.mono_l k; unfold impl_LaplacianOf.f; exact zm8
theorem impl_LaplacianOf.calls (k : Nat) (aD : Int) (aH : Option Addr) (aG : Nat) (aA : List (S57)) (r : List (List Int)) (w : World) (hr0_1 : Kd.C k57 w aH aA.length aA) (hc0_1 : aA.length ≤ aG) (h : impl_LaplacianOf.f k aD aA = some r) :
  Calls Try.prog 146 #[.agg #[.int .i64 aD, .slice aH aA.length aG]] w fun e w' => ∃ v0_ : Value, e = .returned (v0_) ∧ Kd.S (Kd.slice 3 (Kd.int .i64)) 26 w' w.heap.size (fun _ => True) v0_ r ∧ Below w.heap.size w w' := by
 have hu25 := Try.underlying25; have bL := zK_ hr0_1; have bG := zK_ hc0_1; clear hr0_1 hc0_1; have HB := zK_ (Below.refl w.heap.size w); have H : ((impl_GraphOk.f aD aA).bind fun aZ => (if aZ = true then (impl_LaplacianOf.l0 k ([] : List (List Int)) 0 aD aA) else (some ([] : List (List Int))))) = some r := h; clear h; obtain ⟨aZ, A20, H⟩ := zO_ H; (try dsimp only at H); have A2 := zK_ A20; clear A20; by_cases c3 : aZ = true; rotate_left
 ·replace c3 := Bool.eq_false_iff.mpr c3; subst c3; rw [if_neg (show ¬ (false = true) by decide)] at H; obtain rfl := Option.some.inj H; go_enter Try.func146, Try.ntmps146; (go_wp2_with (first | ((with_reducible refine gate_dst (N := 1) rfl ?_); refine box_event ?hg (N := 1) ?hd (cs := #[.int .i64 aD, .slice aH aA.length aG]) (t := 25) ?hr ?_; (case hd => rfl); (case hg => rfl); (case hr => exact zz9); intro aE hg w34 hbox hb; have n_ := zA4 (below_step zz1 hb) hbox (zz10 : w.heap.size ≤ aE) (zz10 : w.heap.size ≤ aE); clear HB; obtain ⟨HB, aC, GW101, GE101⟩ := n_; clear hb hbox hg; have jH := zC20 aC; have jG := zC21 aC; have i9 := blk_frozen aC.out 0; have i8 := blk_frozen aC.out 1) | ((with_reducible refine gate_callee (f := 50) rfl ?_); refine goesL_ (some 8) rfl rfl Try.func50 (by kernel_rfl) rfl #[.agg #[.int .i64 aD, .slice aH aA.length aG]] rfl zz4 ?_; (with_reducible refine (impl_GraphOk.calls aD _ _ aA false _ ?side1 ?side2 A2.out).mono ?_); (case side1 => exact zz6); (case side2 => exact bG.out); rintro e w36 ⟨rfl, hb⟩; refine ⟨_, rfl, ?_⟩; have n_ := zA2 (blk_below (g := aE) (o := .cells #[.int .i64 aD, .slice aH aA.length aG] 25 (0, 0)) zz2 hb) (below_step zz0 hb); clear aC HB; obtain ⟨aC, HB⟩ := n_; clear hb))); go_ret; exact ⟨_, zz7, zz53, zz0⟩
 subst c3; rw [if_pos rfl] at H; have H' := zK_ H; clear H; go_enter Try.func146, Try.ntmps146; (go_wp2_with (first | ((with_reducible refine gate_dst (N := 1) rfl ?_); refine box_event ?hg (N := 1) ?hd (cs := #[.int .i64 aD, .slice aH aA.length aG]) (t := 25) ?hr ?_; (case hd => rfl); (case hg => rfl); (case hr => exact zz9); intro aE hg w4 hbox hb; have n_ := zA4 (below_step zz1 hb) hbox (zz10 : w.heap.size ≤ aE) (zz10 : w.heap.size ≤ aE); clear HB; obtain ⟨HB, aC, GW101, GE101⟩ := n_; clear hb hbox hg; have iH := zC20 aC; have iG := zC21 aC; have iF := blk_frozen aC.out 0; have iE := blk_frozen aC.out 1) | ((with_reducible refine gate_callee (f := 50) rfl ?_); refine goesL_ (some 8) rfl rfl Try.func50 (by kernel_rfl) rfl #[.agg #[.int .i64 aD, .slice aH aA.length aG]] rfl zz4 ?_; (with_reducible refine (impl_GraphOk.calls aD _ _ aA true _ ?side1 ?side2 A2.out).mono ?_); (case side1 => exact zz6); (case side2 => exact bG.out); rintro e w6 ⟨rfl, hb⟩; refine ⟨_, rfl, ?_⟩; have n_ := zA2 (blk_below (g := aE) (o := .cells #[.int .i64 aD, .slice aH aA.length aG] 25 (0, 0)) zz2 hb) (below_step zz0 hb); clear aC HB; obtain ⟨aC, HB⟩ := n_; clear hb))); (go_loopg [3, 4] k (fun kq v3 v4 w' => ∃ (bT : List (List Int)) (aX : Int), v4 = .int .i64 aX ∧ Aside0 (impl_LaplacianOf.l0 kq bT aX aD aA = some r) ∧ Aside0 (kq ≤ k) ∧ Aside0 (Kd.S (Kd.slice 3 (Kd.int .i64)) 26 w' w.heap.size (fun _ => True) v3 bT) ∧ Aside0 (w'.heap[aE]? = some (.cells #[.int .i64 aD, (.slice aH aA.length aG)] 25 (0, 0))) ∧ Aside0 (Below w.heap.size w w'))); case atStart => exact ⟨(([] : List (List Int))), (0), zz5, H', ⟨Nat.le_refl _⟩, ⟨zz53⟩, ⟨zz2⟩, ⟨zz0⟩⟩
 case round =>
  clear H'; (try clear c1); (try clear p2); (try clear c3); (try clear c5); (try clear iH); (try clear iG); (try clear iF); (try clear iE); obtain ⟨bT, aX, rfl, HA, HK1, bC, aC, HB⟩ := hrel
  cases gk with
  | zero => exact absurd HA.out (by simp [impl_LaplacianOf.l0])
  | succ k1 =>
   have H := HA.out; clear HA; simp only [impl_LaplacianOf.l0] at H; by_cases c7 : aX < aD; rotate_left
   ·rw [if_neg c7] at H; have dK := decide_eq_false c7; clear c7; obtain rfl := Option.some.inj H; have qP := zC20 aC; have qO := zC21 aC; have qJ := blk_frozen aC.out 0; have qI := blk_frozen aC.out 1; go_wp2; go_ret; exact ⟨_, zz7, by (with_reducible repeat (first | apply Kd.S_alloc | apply Kd.S_drewN | apply Kd.S_drew)); exact bC.out, zz0⟩
   rw [if_pos c7] at H; have dK := decide_eq_true c7; clear c7; by_cases c8 : 0 ≤ aD; rotate_left
   ·rw [if_neg c8] at H; exact absurd H (by simp)
   rw [if_pos c8] at H; have fP := eq_true c8; have sY : decide (0 ≤ aD) = true := decide_eq_true c8; clear c8; by_cases c9 : (aD : Int).toNat ≤ 35184372088832; rotate_left
   ·rw [if_neg c9] at H; exact absurd H (by simp)
   rw [if_pos c9] at H; have fN := eq_true c9; have pH : decide ((aD : Int).toNat ≤ 35184372088832) = true := decide_eq_true c9; clear c9; obtain ⟨fO, hy_⟩ : ∃ y_ : List Int, y_ = (List.replicate (aD : Int).toNat 0) := ⟨_, rfl⟩; (replace H : (impl_LaplacianOf.l1 k1 bT aX fO (fO.length : Int) 0 aD aA) = some r := zzY); have j5 := zK_ hy_; clear hy_; have H' := zK_ H; clear H; have cK := zC20 aC; have cJ := zC21 aC; have cI := blk_frozen aC.out 0; have cH := blk_frozen aC.out 1; (go_wp2_with (first | ((with_reducible refine gate_dst (N := 18) rfl ?_); refine Kd.R_make (Kd.int .i64) _ 3 rfl (N := 18) rfl 26 _ _ rfl aD rfl rfl Try.underlying26 (.int .i64 0) 8 info3 rfl (by decide) (by omega) 0 (ok := fun _ => True) (okp := fun _ => True) rfl (fun _ hk => hk) trivial (of_decide_eq_true zz3) (Nat.le_trans (Nat.mul_le_mul_right _ (of_decide_eq_true zz3 : aD.toNat ≤ 35184372088832)) (by omega)) (Below.refl _ _) (Nat.le_refl _) ?_; intro v104 w11 ho12 hb hg_ hnew_; clear hg_ hnew_; (first | rw [← j5.out] at ho12 | (simp only [Int.reduceToNat] at ho12; rw [← j5.out] at ho12)); have n_ := zA4 (Kd.S_elder' zz44 (Kd.R_base ho12) hb) (Kd.R_lower ho12 (below_size zz0)) (blk_below (g := aE) (o := .cells #[.int .i64 aD, .slice aH aA.length aG] 25 (0, 0)) zz2 hb) (below_step zz0 hb); clear bC aC HB; obtain ⟨bC, eZ, aC, HB⟩ := n_; clear hb ho12; obtain ⟨Ao13, co13, rO⟩ := Kd.R_slice eZ.out; subst rO))); (go_loopg [21] k1 (fun kq v21 w' => ∃ (bO : List Int) (f4 : Int), v21 = .int .i64 f4 ∧ Aside0 (impl_LaplacianOf.l1 kq bT aX bO (fO.length : Int) f4 aD aA = some r) ∧ Aside0 (kq ≤ k1) ∧ Aside0 (Kd.S (Kd.slice 3 (Kd.int .i64)) 26 w' w.heap.size (fun k_ => some k_ ≠ ((.slice Ao13 fO.length co13) : Value).ownBlock) u3 bT) ∧ Aside0 (Kd.R (Kd.int .i64) 3 w' w.heap.size (fun _ => True) (.slice Ao13 fO.length co13) bO) ∧ Aside0 (w'.heap[aE]? = some (.cells #[.int .i64 aD, (.slice aH aA.length aG)] 25 (0, 0))) ∧ Aside0 (Below w.heap.size w w'))); case atStart => exact ⟨(fO), (0), zz5, H', ⟨Nat.le_refl _⟩, ⟨zz54⟩, ⟨by (with_reducible repeat (first | apply Kd.R_alloc | apply Kd.R_drewN | apply Kd.R_drew)); exact eZ.out⟩, ⟨zz2⟩, ⟨zz0⟩⟩
   case round =>
    clear H'; (try clear c1); (try clear p2); (try clear c3); (try clear c5); (try clear c7); (try clear dK); (try clear c8); (try clear fP); (try clear sY); (try clear c9); (try clear fN); (try clear pH); (try clear cK); (try clear cJ); (try clear iH); (try clear iG); (try clear cI); (try clear cH); (try clear iF); (try clear iE); (try clear p2); obtain ⟨bO, f4, rfl, HA, HK2, bC, bY, aC, HB⟩ := hrel; have fL := (Kd.R_reads' bY.out).1; rw [fL] at bY; (try simp only [fL]); (try simp only [fL] at aC); (try simp only [fL] at bC)
    cases gk with
    | zero => exact absurd HA.out (by simp [impl_LaplacianOf.l1])
    | succ k2 =>
     have H := HA.out; clear HA; simp only [impl_LaplacianOf.l1] at H; by_cases c14 : f4 < (fO.length : Int)
     ·rw [if_pos c14] at H; have gJ := decide_eq_true c14; (try (have iL := gJ; first | rw [fL] at iL | rw [← fL] at iL)); clear c14; obtain ⟨dU, A150, H⟩ := zO_ H; (try dsimp only at H); have A15 := zK_ A150; clear A150; by_cases c16 : 0 ≤ f4; rotate_left
      ·rw [if_neg c16] at H; exact absurd H (by simp)
      rw [if_pos c16] at H; have iJ := decide_eq_true c16; clear c16; by_cases c17 : f4 < (bO.length : Int); rotate_left
      ·rw [if_neg c17] at H; exact absurd H (by simp)
      rw [if_pos c17] at H; have jR := decide_eq_true c17; (try (have mN := jR; first | rw [fL] at mN | rw [← fL] at mN)); clear c17; obtain ⟨i5, hy_⟩ : ∃ y_ : List Int, y_ = (bO.set (f4 : Int).toNat (wrap64 (-dU))) := ⟨_, rfl⟩; (replace H : (impl_LaplacianOf.l1 k2 bT aX i5 (fO.length : Int) (wrap64 (f4 + 1)) aD aA) = some r := zzY); have kR := zK_ hy_; clear hy_; have H' := zK_ H; clear H; have jL := zC20 aC; have jK := zC21 aC; have jD := blk_frozen aC.out 0; have jC := blk_frozen aC.out 1; (go_wp2_with (first | ((with_reducible refine gate_callee (f := 123) rfl ?_); refine goesL_ (some 29) rfl rfl Try.func123 (by kernel_rfl) rfl #[.agg #[.int .i64 aD, .slice aH aA.length aG], .int .i64 aX, .int .i64 f4] rfl zz4 ?_; (with_reducible refine (impl_Multiplicity.calls k2 aD _ _ aA aX f4 dU _ ?side1 ?side2 A15.out).mono ?_); (case side1 => exact zz6); (case side2 => exact bG.out); rintro e w20 ⟨rfl, hb⟩; refine ⟨_, rfl, ?_⟩; have n_ := zA4 (Kd.S_below zz44 hb) (Kd.R_below zz22 hb) (blk_below (g := aE) (o := .cells #[.int .i64 aD, .slice aH aA.length aG] 25 (0, 0)) zz2 hb) (below_step zz0 hb); clear bC bY aC HB; obtain ⟨bC, bY, aC, HB⟩ := n_; clear hb; have p18 : 0 ≤ (f4 : Int) := of_decide_eq_true zz3; have q18 : (f4 : Int) < ((bO.length : Int) : Int) := of_decide_eq_true zz3; obtain ⟨go18, co18, sW, sQ, gl18, cl18, HG18⟩ := Kd.R_form bY.out (by omega); (first | cases sW | (injection sW with ea_ en_ ec_; (first | subst ea_ | (injection ea_ with ea_; subst ea_)); subst ec_; clear en_)); have yX := zK_ sQ; have CA := zK_ HG18; clear sQ gl18 HG18; obtain ⟨wR, yE⟩ := Kd.R_celln 0 bY.out (f4 : Int) p18 q18; replace p18 := eq_true p18; replace q18 := eq_true q18; obtain ⟨hy21_, hz21_⟩ := Kd.R_celln 0 bY.out (f4 : Int) (of_decide_eq_true zz3) (of_decide_eq_true zz3); have rV := Kd.R_putg bY.out (f4 : Int) (wrap64 (-dU))) | ((with_reducible refine gate_store (t := 3) (p := 31) rfl ?_); refine store_event (t := 3) (p := 31) (v := ?vo_w22) (w1 := (w20.setCell ⟨go18, (f4 : Int).toNat, none⟩ (.int .i64 (wrap64 (-dU))))) ?hg ?ho ?hn ?hr ?_; (case ho => rfl); (case hg => rfl); (case hn => rfl); (case hr => exact zz9); intro w22 hw; have hg : w20.grownBy w22 (some go18) := (by rw [hw]; exact rV.2); have hp_ : Kd.R (Kd.int .i64) 3 w22 w.heap.size (fun _ => True) (.slice (some ⟨go18, 0, none⟩) bO.length co13) i5 := (by rw [hw, kR.out]; exact rV.1); clear rV; have n_ := zA4 (Kd.S_after (v := (.slice (some ⟨go18, 0, none⟩) bO.length co13)) (v1 := (.slice (some ⟨go18, 0, none⟩) bO.length co13)) (ok := (fun _ => True)) zz52 hg (.inl rfl)) hp_ (blk_grown (g := aE) (o := .cells #[.int .i64 aD, .slice aH aA.length aG] 25 (0, 0)) zz2 hg (Kd.R_ne bY.out aC.out (by decide))) (by rw [hw]; exact below_set (HB.out) yX.out : Below w.heap.size w w22); clear bC bY aC HB; obtain ⟨bC, bY, aC, HB⟩ := n_; clear hg hw hp_))); (try simp only [← fL]); go_roundg k2; (case measure => have := HK1.out; have := HK2.out; omega); case rel => exact ⟨(i5), (wrap64 (f4 + 1)), zz5, H', ⟨zz51⟩, ⟨by (try simp only [fL]); (with_reducible repeat (first | apply Kd.S_alloc | apply Kd.S_drewN | apply Kd.S_drew)); exact Kd.S_mono bC.out (fun _ hk => hk.2)⟩, ⟨by (try simp only [fL]); (with_reducible repeat (first | apply Kd.R_alloc | apply Kd.R_drewN | apply Kd.R_drew)); exact bY.out⟩, ⟨by (try simp only [fL]); (with_reducible repeat (first | refine blk_drewN ?_ _ | refine blk_drew ?_ | refine blk_alloc ?_ _)); exact aC.out⟩, ⟨zz0⟩⟩
     rw [if_neg c14] at H; have gJ := decide_eq_false c14; (try (have iL := gJ; first | rw [fL] at iL | rw [← fL] at iL)); clear c14; obtain ⟨fT, A230, H⟩ := zO_ H; (try dsimp only at H); have A23 := zK_ A230; clear A230; by_cases c24 : 0 ≤ aX; rotate_left
     ·rw [if_neg c24] at H; exact absurd H (by simp)
     rw [if_pos c24] at H; have pK := decide_eq_true c24; clear c24; by_cases c25 : aX < (bO.length : Int); rotate_left
     ·rw [if_neg c25] at H; exact absurd H (by simp)
     rw [if_pos c25] at H; have tK := decide_eq_true c25; (try (have mK := tK; first | rw [fL] at mK | rw [← fL] at mK)); clear c25; obtain ⟨bZ, hy_⟩ : ∃ y_ : List Int, y_ = (bO.set (aX : Int).toNat fT) := ⟨_, rfl⟩; (replace H : (if bT.length < 5864062014805 then (impl_LaplacianOf.l0 k2 (bT ++ [bZ]) (wrap64 (aX + 1)) aD aA) else (none)) = some r := zzY); have f7 := zK_ hy_; clear hy_; by_cases c27 : bT.length < 5864062014805; rotate_left
     ·rw [if_neg c27] at H; exact absurd H (by simp)
     rw [if_pos c27] at H; have tT := zK_ c27; clear c27; obtain ⟨oK, hy_⟩ : ∃ y_ : List (List Int), y_ = (bT ++ [bZ]) := ⟨_, rfl⟩; (replace H : (impl_LaplacianOf.l0 k2 oK (wrap64 (aX + 1)) aD aA) = some r := zzY); have pT := zK_ hy_; clear hy_; have H' := zK_ H; clear H; have nW := zC20 aC; have nV := zC21 aC; have nO := blk_frozen aC.out 0; have nN := blk_frozen aC.out 1; (go_wp2_with (first | ((with_reducible refine gate_callee (f := 75) rfl ?_); refine goesL_ (some 37) rfl rfl Try.func75 (by kernel_rfl) rfl #[.agg #[.int .i64 aD, .slice aH aA.length aG], .int .i64 aX] rfl zz4 ?_; (with_reducible refine (impl_Valence.calls k2 aD _ _ aA aX fT _ ?side1 ?side2 A23.out).mono ?_); (case side1 => exact zz6); (case side2 => exact bG.out); rintro e w29 ⟨rfl, hb⟩; refine ⟨_, rfl, ?_⟩; have n_ := zA4 (Kd.S_below zz44 hb) (Kd.R_below zz22 hb) (blk_below (g := aE) (o := .cells #[.int .i64 aD, .slice aH aA.length aG] 25 (0, 0)) zz2 hb) (below_step zz0 hb); clear bC bY aC HB; obtain ⟨bC, bY, aC, HB⟩ := n_; clear hb; have p26 : 0 ≤ (aX : Int) := of_decide_eq_true zz3; have q26 : (aX : Int) < ((bO.length : Int) : Int) := of_decide_eq_true zz3; obtain ⟨go26, co26, sT, sO, gl26, cl26, HG26⟩ := Kd.R_form bY.out (by omega); (first | cases sT | (injection sT with ea_ en_ ec_; (first | subst ea_ | (injection ea_ with ea_; subst ea_)); subst ec_; clear en_)); have yV := zK_ sO; have B4 := zK_ HG26; clear sO gl26 HG26; obtain ⟨wP, yC⟩ := Kd.R_celln 0 bY.out (aX : Int) p26 q26; replace p26 := eq_true p26; replace q26 := eq_true q26; obtain ⟨hy30_, hz30_⟩ := Kd.R_celln 0 bY.out (aX : Int) (of_decide_eq_true zz3) (of_decide_eq_true zz3); have rT := Kd.R_putg bY.out (aX : Int) fT) | ((with_reducible refine gate_store (t := 3) (p := 38) rfl ?_); refine store_event (t := 3) (p := 38) (v := ?vo_w31) (w1 := (w29.setCell ⟨go26, (aX : Int).toNat, none⟩ (.int .i64 fT))) ?hg ?ho ?hn ?hr ?_; (case ho => rfl); (case hg => rfl); (case hn => rfl); (case hr => exact zz9); intro w31 hw; have hg : w29.grownBy w31 (some go26) := (by rw [hw]; exact rT.2); have hp_ : Kd.R (Kd.int .i64) 3 w31 w.heap.size (fun _ => True) (.slice (some ⟨go26, 0, none⟩) bO.length co13) bZ := (by rw [hw, f7.out]; exact rT.1); clear rT; have n_ := zA4 (Kd.S_after (v := (.slice (some ⟨go26, 0, none⟩) bO.length co13)) (v1 := (.slice (some ⟨go26, 0, none⟩) bO.length co13)) (ok := (fun _ => True)) zz52 hg (.inl rfl)) hp_ (blk_grown (g := aE) (o := .cells #[.int .i64 aD, .slice aH aA.length aG] 25 (0, 0)) zz2 hg (Kd.R_ne bY.out aC.out (by decide))) (by rw [hw]; exact below_set (HB.out) yV.out : Below w.heap.size w w31); clear bC bY aC HB; obtain ⟨bC, bY, aC, HB⟩ := n_; clear hg hw hp_) | ((with_reducible refine gate_builtin (b := .append) (xs := #[.tmp 39, .tmp 41]) rfl ?_); at_builtin; refine Kd.S_append (Kd.slice 3 (Kd.int .i64)) (w0 := w) w.heap.size rfl (.tmp 39) (.tmp 41) 34 26 (.slice none 0 0) 24 rfl Try.underlying34 info26 rfl (by decide) (by omega) u3 bT bZ [.slice (some ⟨go26, 0, none⟩) bO.length co13] (fun _ => True) (fun k_ => some k_ = (.slice (some ⟨go26, 0, none⟩) bO.length co13 : Value).ownBlock) rfl rfl ?aP (fun k_ hk_ => ((Kd.R_mono (ok' := fun k_ => ((fun _ => True)) k_ ∧ some k_ ≠ (u3 : Value).ownBlock) (Kd.R_apart' (bY.out) (Kd.S_typed bC.out) (by decide)) (fun k_ hk => ⟨trivial, hk.2⟩))).1 k_ hk_.symm) ?aF ?aO ?aB ?aS ?aL ?_; (case aP => exact Kd.M_row (Kd.R_mono (Kd.R_tight rfl (Kd.R_mono (ok' := fun k_ => ((fun _ => True)) k_ ∧ some k_ ≠ (u3 : Value).ownBlock) (Kd.R_apart' (bY.out) (Kd.S_typed bC.out) (by decide)) (fun k_ hk => ⟨trivial, hk.2⟩))) (fun _ h_ => h_))); (case aB => exact zz0); (case aF => exact (fun _ _ => trivial)); (case aO => exact (by (with_reducible repeat (first | apply Kd.S_alloc | apply Kd.S_drewN | apply Kd.S_drew)); exact Kd.S_mono bC.out (fun k_ hk => ⟨trivial, fun e_ => hk.2 e_⟩))); (case aS => exact (below_size zz0)); (case aL => have := tT.out; omega); intro v111 w32 ho hb hg hat; rw [← pT.out] at ho; have n_ := zA3 (blk_grown (g := aE) (o := .cells #[.int .i64 aD, .slice aH aA.length aG] 25 (0, 0)) zz2 hg (Kd.S_ne bC.out aC.out (by decide))) hb ho; clear aC HB bC bY; obtain ⟨aC, HB, qA⟩ := n_; clear ho hb hg hat))); (try simp only [← fL]); go_roundg k2; (case measure => have := HK1.out; have := HK2.out; omega); case rel => exact ⟨(oK), (wrap64 (aX + 1)), zz5, H', ⟨zz51⟩, ⟨by (try simp only [fL]); (with_reducible repeat (first | apply Kd.S_alloc | apply Kd.S_drewN | apply Kd.S_drew)); exact qA.out⟩, ⟨by (try simp only [fL]); (with_reducible repeat (first | refine blk_drewN ?_ _ | refine blk_drew ?_ | refine blk_alloc ?_ _)); exact aC.out⟩, ⟨zz0⟩⟩
end Go.Proofs.Ytnbljcgdgblgoaa.P
end

section
namespace Go.Proofs.Ytnbljcgdgblgoaa.Cf
set_option linter.unusedVariables false
set_option linter.unusedSimpArgs false
open Go.RowKit Go.Proofs.YtnbljcgdgblgoaaW.PrintWords Go.Proofs.YtnbljcgdgblgoaaW.PrintLast Go.Proofs.YtnbljcgdgblgoaaW.PrintMore Go.Proofs.Ytnbljcgdgblgoaa.P
theorem step_append_own {P : Program} {ops : Array Oper} {o : Oper} {a : Act} {w : World} {K : Act → World → Prop} {Q : Exit → Act → World → Prop} {E : Prop}
  (hg : o.guard = none) (s x : Operand) (t : TypeId) (hop : o.op = Op.call { callee := Callee.builtin Builtin.append, args := #[s, x], argTypes := #[t, t] })
  (base : Nat) (e : TypeId) (i : TypeInfo) (size : Nat) (h1 : P.underlying t = some (.slice e)) (h2 : P.info? e = some i) (h4 : i.size = size)
  (g n cap : Nat) (xs : List Value) (hs : a.eval s = .slice (some ⟨g, 0, none⟩) n cap) (hown : w.ownsRow base e size (.slice (some ⟨g, 0, none⟩) n cap) n xs)
  (ad : Addr) (m c : Nat) (news : List Value) (hx : a.eval x = .slice (some ad) m c) (hn : news.length = m * size) (hc : ∀ j u, news[j]? = some u → w.cell? (ad.add j) = some u) (h1c : ∀ u ∈ news, u.oneCell' = true)
  (hroom : n + m ≤ cap)
  (hK : ∀ w', w'.ownsRow base e size (.slice (some ⟨g, 0, none⟩) (n + m) cap) (n + m) (xs ++ news) → w.grownBy w' (some g) → K (a.put o.dst (.slice (some ⟨g, 0, none⟩) (n + m) cap)) w') :
  if Region.wanted o (yielded ops a.tmps) = true then Oper.wp P o a w K Q else E := by
 have hw : Region.wanted o (yielded ops a.tmps) = true := by simp [Region.wanted, hg]
 rw [if_pos hw]
 obtain ⟨w', hrun, r1, r2⟩ := run_append_fits (P := P) w base t o.type e i size h1 h2 h4 g n cap xs hown ad m c news hn hc h1c hroom
 unfold Oper.wp
 simp [execOp, hop, resolve, invoke, builtin, hs, hx, hrun, Result.andThen]
 exact hK w' r1 r2
theorem own_tail {base e size n : Nat} {cap g : Nat} {xs : List Value} : ∀ (vs : List Value) (o : Nat) (w : World), w.ownsRow base e size (.slice (some ⟨g, 0, none⟩) n cap) n xs → n * size ≤ o → o + vs.length ≤ cap * size →
  (w.setCells g o vs).ownsRow base e size (.slice (some ⟨g, 0, none⟩) n cap) n xs ∧ w.grownBy (w.setCells g o vs) (some g)
 | [], o, w, h, _, _ => ⟨h, World.grownBy.refl _ _⟩
 | v :: vs, o, w, h, h1, h2 => by
  have h0 : (w.setCell ⟨g, o, none⟩ v).ownsRow base e size (.slice (some ⟨g, 0, none⟩) n cap) n xs := by
   obtain ⟨hl, hr⟩ := h
   refine ⟨hl, ?_⟩
   rcases hr with ⟨hv, _⟩ | ⟨g', cap', cur, hv, hb, hh, hn, hm, hs, ht⟩
   ·cases hv
   ·injection hv with ha _ hc
    injection ha with ha
    injection ha with ha
    subst ha
    subst hc
    refine .inr ⟨g, cap, cur.setIfInBounds o v, rfl, hb, blk_put hh o v rfl, hn, hm, by rw [Array.size_setIfInBounds]; exact hs, ?_⟩
    rw [← ht, Array.toList_setIfInBounds, List.take_set_of_le h1]
  have hg : w.grownBy (w.setCell ⟨g, o, none⟩ v) (some g) := ⟨rfl, rfl, rfl, by simp [World.setCell], fun k _ hk => Below.heap_setCell w ⟨g, o, none⟩ v k (fun e => hk (by rw [e]))⟩
  obtain ⟨h3, h4⟩ := own_tail vs (o + 1) _ h0 (by omega) (by rw [List.length_cons] at h2; omega)
  refine ⟨h3, ⟨h4.os.trans hg.os, h4.tape.trans hg.tape, h4.output.trans hg.output, Nat.le_trans hg.size h4.size, fun k hk hne => ?_⟩⟩
  rw [show w.setCells g o (v :: vs) = (w.setCell ⟨g, o, none⟩ v).setCells g (o + 1) vs from rfl, h4.block k (Nat.lt_of_lt_of_le hk hg.size) hne]
  exact hg.block k hk hne
end Go.Proofs.Ytnbljcgdgblgoaa.Cf
end

section
namespace Go.Proofs.Ytnbljcgdgblgoaa.P
open Go.RowKit Go.Proofs.YtnbljcgdgblgoaaW.PrintWords Go.Proofs.YtnbljcgdgblgoaaW.PrintLast Go.Proofs.YtnbljcgdgblgoaaW.PrintMore
attribute [local go_sem] max2_int min2_int max_two min_two max_three min_three max_four min_four
set_option linter.unusedVariables false
set_option linter.unusedSimpArgs false
def slices_Delete_int_int.f (l0 : List (Int)) (a1 a2 : Int) : Option (List (Int)) := if 0 ≤ a1 then (if a1 < (l0.length : Int) then (if a2 = a1 + 1 then some (l0.eraseIdx a1.toNat) else none) else none) else none
theorem slices_Delete_int_int.clear_ {P : Program} (W : World) {g o c : Nat} {t e ty : TypeId} {cur : Array Value} (ht : P.underlying t = some (.slice e)) (hv : ∀ w, (zeroValue e).run P w = .ok (.int .i64 0) w) (hb : W.heap[g]? = some (.cells cur e (0, 0))) (hl : o + 1 ≤ cur.size) :
  (Builtin.clear_ #[t] ty #[.slice (some ⟨g, o, none⟩) 1 c]).run P W = .ok (.tuple #[]) (W.setCells g o [.int .i64 0]) := by
 have hst := run_storeCells_cells (P := P) g o [.int .i64 0] 0 W (fun j hj => by
  rw [blk_cell hb]; (simp at hj ⊢); omega) (fun j hj => blk_frozen hb _) (by intro v hv'; simp at hv'; rw [hv']; rfl)
 simp only [Nat.add_zero] at hst; (have hz : (Builtin.zeroCells (.int .i64 0 : Value).cells 1).toList = [.int .i64 0] := by simp [Builtin.zeroCells, Value.cells, List.range_succ]); simp [Builtin.clear_, run_underlying ht, hv, hz, hst]
theorem slices_Delete_int_int.calls (P0_ : Nat → Prop) (u9000_ : Value) (l0 : List (Int)) (a1 a2 : Int) (r : List (Int)) (w0 w : World) (hB : Below w0.heap.size w0 w) (ho0 : Kd.R (Kd.int .i64) 3 w w0.heap.size P0_ u9000_ l0) (h : slices_Delete_int_int.f l0 a1 a2 = some r) :
  Calls Try.prog 147 #[u9000_, .int .i64 a1, .int .i64 a2] w fun e w' => ∃ v0_ : Value, e = .returned (v0_) ∧ Kd.R (Kd.int .i64) 3 w' w0.heap.size (fun k_ => (P0_ k_ ∨ w.heap.size ≤ k_)) v0_ r ∧ Below w0.heap.size w0 w' ∧ Kept w w' (fun k_ => P0_ k_) := by
 unfold slices_Delete_int_int.f at h; split at h
 ·split at h
  ·split at h
   ·rename_i h0 h1 h2; subst h2; obtain rfl := Option.some.inj h; obtain ⟨i, rfl⟩ := Int.eq_ofNat_of_zero_le h0; (have hi : i < l0.length := by omega); clear h h0 h1; obtain ⟨hk0, inner, ho, hr⟩ := ho0; have hil : inner.length = l0.length * 1 := ho.1; rcases ho.2 with ⟨hv, hn⟩ | ⟨g, cap, cur, rfl, hbg, hh, hnc, hcm, hcs, htk⟩
    ·omega
    ·obtain ⟨i0, hi0, hz0, hz1, hz2⟩ := info_parts info3; (have hcells : ∀ j u, inner[j]? = some u → w.cell? ⟨g, j, none⟩ = some u := fun j u hu => by have := ho.cells (g := g) rfl j u hu; rwa [add_plain] at this); have hb0 : w0.heap.size ≤ w.heap.size := hB.size; change cur.size = cap * 1 at hcs; change List.take (l0.length * 1) cur.toList = inner at htk; have hk0g : P0_ g := hk0 g rfl; have hoi : w.drew.ownsRow w0.heap.size 3 1 (.slice (some ⟨g, 0, none⟩) i cap) i (inner.take (i * 1)) := ⟨by rw [List.length_take]; omega, .inr ⟨g, cap, cur, rfl, hbg, hh, by omega, hcm, hcs, by rw [← htk, List.take_take, Nat.min_eq_left (by omega)]⟩⟩; obtain ⟨d, hd⟩ : ∃ d, l0.length = i + 1 + d := ⟨l0.length - (i + 1), by omega⟩; rw [hd] at hil hnc htk ⊢; obtain ⟨news, hnews⟩ : ∃ news, news = inner.drop ((i + 1) * 1) := ⟨_, rfl⟩; have hnl : news.length = d * 1 := by rw [hnews, List.length_drop, hil]; omega
     have hn1 : ∀ u ∈ news, u.oneCell' = true := fun u hu => by
      rw [hnews] at hu; exact (Kd.reps_one hr (by decide) (fun p c hp => Kd.K_one (Kd.int .i64) (Kd.K_of_M (Kd.int .i64) hp))) u (List.mem_of_mem_drop hu)
     obtain ⟨A, hA, hsrc⟩ : ∃ A : Addr, (if cap = i + 1 then some (⟨g, 0, none⟩ : Addr) else some ⟨g, i + 1, none⟩) = some A ∧ Hid (∀ t u, news[t]? = some u → w.drew.cell? (A.add t) = some u) := by
      by_cases hq : cap = i + 1
      ·refine ⟨⟨g, 0, none⟩, by simp [hq], fun t u hu => ?_⟩; (have h0 : news.length = 0 := by omega); rw [List.length_eq_zero_iff.1 h0] at hu; simp at hu
      refine ⟨⟨g, i + 1, none⟩, by simp [hq], fun t u hu => ?_⟩; rw [hnews, List.getElem?_drop] at hu; rw [Addr.add_lit]; exact hcells _ _ (by simpa using hu)
     have HD := zK_ hd; clear hi; have HO := zK_ hoi; have HNL := zK_ hnl; have HN1 := zK_ hn1; have HR := zK_ hr; have HNW := zK_ hnews; have HIL := zK_ hil; have HBW := zK_ hB; have HC := zK_ hcs; have HG := zK_ (⟨hbg, hk0g, hcm⟩ : w0.heap.size ≤ g ∧ P0_ g ∧ cap ≤ maxLen); (have hic : i ≤ cap := by omega); (have hjc : i + 1 ≤ cap := by omega); (have hcz : cap ≤ 9223372036854775807 := by have := hcm; unfold maxLen at this; omega); clear hnl hn1 hr hnews hil hB hcs hbg hk0g hcm hh htk ho hcells hk0 hoi hd
     have clr_ : ∀ {W1 : World}, W1.ownsRow w0.heap.size 3 1 (.slice (some ⟨g, 0, none⟩) (i + d) cap) (i + d) (inner.take (i * 1) ++ news) → ∀ ty, (Builtin.clear_ #[26] ty #[.slice (some ⟨g, i + d, none⟩) (i + 1 + d - (i + d)) (cap - (i + d))]).run Try.prog W1 = .ok (.tuple #[]) (W1.setCells g (i + d) [.int .i64 0]) := fun {W1} hO ty => by
      rcases hO.2 with ⟨hv, _⟩ | ⟨g', cap', cur', hv, _, hh', _, _, hs', _⟩
      ·cases hv
      ·injection hv with ha _ hc'; injection ha with ha; injection ha with ha; subst ha; subst hc'; rw [show i + 1 + d - (i + d) = 1 by omega]; exact slices_Delete_int_int.clear_ W1 Try.underlying26 Try.zeroValue3 hh' (by rw [hs']; omega)
     (have hbi0 : (0 : Int) ≤ (i : Int) + 1 := by omega); (have hbi1 : (i : Int) + 1 ≤ (i : Int) + 1 + (d : Int) := by omega); go_enter Try.func147, Try.ntmps147; (go_wp2_with fail); (go_region_law (refine Cf.step_append_own rfl (.tmp 22) (.tmp 25) 26 rfl w0.heap.size 3 i0 1 Try.underlying26 hi0 hz1 g i cap (inner.take (i * 1)) (by simp [Act.eval, Act.put]) HO.out A d (cap - (i + 1)) news (by simp [Act.eval, Act.put]) HNL.out hsrc.out HN1.out (by omega) ?_; intro W1 hO1 hG1; have HO1 := zK_ hO1; have HG1 := zK_ hG1; have hcl := clr_ hO1; obtain ⟨W2, hW2⟩ : ∃ W2, W2 = W1.setCells g (i + d) [.int .i64 0] := ⟨_, rfl⟩; rw [← hW2] at hcl; have HW2 := zK_ hW2; clear hO1 hG1 hW2)); go_wp2; refine bodyPost_ret (v := .slice (some ⟨g, 0, none⟩) (i + d) cap) (by simp [results, Try.results147, go_sem]) rfl ?_; have hO2 := Cf.own_tail [.int .i64 0] (i + d) W1 HO1.out (by omega) (by have := HC.out; simp; omega); rw [← HW2.out] at hO2; have hgr : w.grownBy W2 (some g) := ⟨hO2.2.os.trans HG1.out.os, hO2.2.tape.trans HG1.out.tape, hO2.2.output.trans HG1.out.output, Nat.le_trans HG1.out.size hO2.2.size, fun k hk hne => (hO2.2.block k (Nat.lt_of_lt_of_le hk HG1.out.size) hne).trans (HG1.out.block k hk hne)⟩; (have hel : l0.eraseIdx ((i : Int)).toNat = l0.take i ++ l0.drop (i + 1) := by rw [Int.toNat_natCast, List.eraseIdx_eq_take_drop_succ]); refine ⟨_, rfl, ⟨fun k hk => ?_, ?_⟩, ⟨hgr.os.trans HBW.out.os, hgr.tape.trans HBW.out.tape, hgr.output.trans HBW.out.output, Nat.le_trans HBW.out.size hgr.size, fun k hk => (hgr.block k (Nat.lt_of_lt_of_le hk HBW.out.size) (by have := HG.out.1; simp; omega)).trans (HBW.out.block k hk)⟩, ⟨hgr.size, fun k hk hn => hgr.block k hk (fun e => hn (by injection e with e; rw [e]; exact HG.out.2.1))⟩⟩
     ·(simp [Value.ownBlock] at hk); subst hk; exact .inl HG.out.2.1
     ·(have hlen : (l0.eraseIdx ((i : Int)).toNat).length = i + d := by rw [hel, List.length_append, List.length_take, List.length_drop, HD.out]; omega); refine ⟨inner.take (i * 1) ++ news, by rw [hlen]; exact hO2.1, ?_⟩; rw [hel, HNW.out]; have ht := Kd.reps_take (m := i) HR.out (by rw [HD.out]; omega); have hd2 := Kd.reps_drop (m := i + 1) HR.out; (refine (Kd.reps_append ht hd2).imp_ fun p c hp => ?_); refine Kd.M_mono (Kd.int .i64) (fun k hk => ?_) (Kd.M_step hp (w1 := W2) fun k hk hlt => hgr.block k hlt (fun e => hk.2 (by rw [e]; rfl))); exact ⟨.inl hk.1, fun e => hk.2 (by rw [e]; rfl)⟩
   ·cases h
  ·cases h
 ·cases h
def impl_ReducedLaplacian.f (k : Nat) (aD : Int) (aA : List S57) (a1 : Int) : Option (List (List Int)) := (impl_isVertex.f aD aA a1).bind fun t => if t = true then (impl_LaplacianOf.f k aD aA).bind fun L => Cf.redF a1 L else some []
theorem impl_ReducedLaplacian.mono : ∀ a0 a1 a2 k, LeO (impl_ReducedLaplacian.f k a0 a1 a2) (impl_ReducedLaplacian.f (k + 1) a0 a1 a2) := by
 intro a0 a1 a2 k; unfold impl_ReducedLaplacian.f; exact LeO.bind (LeO.refl _) fun t => LeO.ite (LeO.bind (impl_LaplacianOf.mono _ _ k) fun _ => LeO.refl _) (LeO.refl _)
theorem impl_ReducedLaplacian.calls (k : Nat) (aD : Int) (aH : Option Addr) (aG : Nat) (aA : List S57) (a1 : Int) (r : List (List Int)) (w : World) (hr0_1 : Kd.C k57 w aH aA.length aA) (hc0_1 : aA.length ≤ aG) (h : impl_ReducedLaplacian.f k aD aA a1 = some r) :
  Calls Try.prog 121 #[.agg #[.int .i64 aD, .slice aH aA.length aG], .int .i64 a1] w fun e w' => ∃ v0_ : Value, e = .returned (v0_) ∧ Kd.S (Kd.slice 3 (Kd.int .i64)) 26 w' w.heap.size (fun _ => True) v0_ r ∧ Below w.heap.size w w' := by
 have hu30 := Try.underlying25; have HR := zK_ hr0_1; have HC := zK_ hc0_1; clear hr0_1 hc0_1; have H : ((impl_isVertex.f aD aA a1).bind fun t => if t = true then (impl_LaplacianOf.f k aD aA).bind fun L => Cf.redF a1 L else some []) = some r := h; clear h; obtain ⟨t, hv, H⟩ := zO_ H; have HV := zK_ hv; clear hv; have HB := zK_ (below_alloc (Below.refl w.heap.size w) (.cells #[.int .i64 aD, .slice aH aA.length aG] 25)); have BK := zK_ (heap_alloc_new w (.cells #[.int .i64 aD, .slice aH aA.length aG] 25))
 cases t with
 | false =>
  obtain rfl := Option.some.inj H; clear H; go_enter Try.func121, Try.ntmps121; (go_wp2_with fail); refine (impl_isVertex.calls _ _ _ aA _ false _ (Kd.C_below HR.out HB.out) HC.out HV.out).mono ?_; rintro e w1 ⟨rfl, hb⟩; have HB1 := zK_ (below_step HB.out hb); clear hb; go_wp2; go_ret; exact ⟨_, rfl, Kd.S_nil _ _ _ _ _, HB1.out⟩
 | true =>
  rw [if_pos rfl] at H; obtain ⟨L, hL, H⟩ := zO_ H; have HL := zK_ hL; clear hL; unfold Cf.redF at H; split at H
  ·rename_i hq; obtain rfl := Option.some.inj H; clear H; obtain ⟨hq0, hq1, hq2, hq3⟩ := hq; obtain ⟨q, rfl⟩ := Int.eq_ofNat_of_zero_le hq0; rw [Int.toNat_natCast]; have HQ := zK_ (show q ≤ 1000000 ∧ L.length ≤ 1000000 ∧ ∀ r ∈ L, q < r.length from ⟨by omega, hq2, fun r hr => by have := hq3 r hr; omega⟩); clear hq0 hq1 hq2 hq3; go_enter Try.func121, Try.ntmps121; (go_wp2_with fail); refine (impl_isVertex.calls _ _ _ aA _ true _ (Kd.C_below HR.out HB.out) HC.out HV.out).mono ?_; rintro e w1 ⟨rfl, hb⟩; have HB1 := zK_ (below_step HB.out hb); have oI := zK_ (blk_below BK.out hb); clear hb; have hz0 : w1.cell? ⟨w.heap.size, 0, none⟩ = some (.int .i64 aD) := (blk_cell oI.out 0).trans rfl; have hz1 : w1.cell? ⟨w.heap.size, 1, none⟩ = some (.slice aH aA.length aG) := (blk_cell oI.out 1).trans rfl; (go_wp2_with fail); refine (impl_LaplacianOf.calls k _ _ _ aA L _ (Kd.C_below HR.out HB1.out) HC.out HL.out).mono ?_; rintro e w2 ⟨vL, rfl, hS, hb⟩; have HB2 := zK_ (below_step HB1.out hb); obtain ⟨okj, rs, hO, _, hok⟩ := Cf.rows_open (Kd.S_bound hS); obtain ⟨AL, cL, eL, hcL, _⟩ := Kd.S_reads hS; have HO := zK_ hO; have HSZ := zK_ (show ∀ j k, okj j k → k < w2.heap.size from fun j k h => (hok j k h).2.2.1); have HW1 := zK_ (below_size HB1.out); have HRow := zK_ (show ∀ j x u, L[j]? = some x → rs[j]? = some u → Kd.R (Kd.int .i64) 3 w2 w.heap.size (okj j) u x from fun j x u hx hu => Kd.R_lower (hO.row j x u hx hu) (below_size HB1.out)); have HOL := zK_ (show ∀ k, vL.ownBlock = some k → k < w2.heap.size from Kd.S_lt hS); subst eL; have hLl : L.length ≤ cL := hcL; clear hS hb hO hok hcL hz0 hz1; go_wp2; (go_loopw [5, 15] (fun v5 v15 wr => ∃ i : Nat, v15 = .int .i64 (i : Int) ∧ Aside0 (i ≤ L.length ∧ w2.heap.size ≤ wr.heap.size) ∧ Aside0 (Below w.heap.size w wr) ∧ Aside0 (∀ k, ((Value.slice AL L.length cL).ownBlock = some k ∨ ∃ j, i ≤ j ∧ okj j k) → wr.heap[k]? = w2.heap[k]?) ∧ Aside0 (Kd.S (Kd.slice 3 (Kd.int .i64)) 26 wr w.heap.size (fun k => (∃ j, j < i ∧ okj j k) ∨ w2.heap.size ≤ k) v5 (Cf.keepF q L i))) (fun _ v _ => L.length - (intOf v).toNat)); case atStart => exact ⟨0, rfl, ⟨Nat.zero_le _, Nat.le_refl _⟩, HB2, ⟨fun _ _ => rfl⟩, ⟨Kd.S_nil _ _ _ _ _⟩⟩
   case round =>
    obtain ⟨i, rfl, HI, HBr, HM, HS⟩ := hrel; by_cases hlt : i < L.length; rotate_left
    ·have c0 : decide ((i : Int) < (L.length : Int)) = false := decide_eq_false (by omega); (have hi : i = L.length := by have := HI.out; omega); subst hi; clear hlt; go_wp2; go_ret; exact ⟨_, rfl, Kd.S_mono HS.out (fun _ _ => trivial), HBr.out⟩
    have c0 : decide ((i : Int) < (L.length : Int)) = true := decide_eq_true (by omega); (have hil : i < rs.length := by rw [HO.out.len]; exact hlt); obtain ⟨x, hxi⟩ : ∃ x, L[i]? = some x := ⟨_, List.getElem?_eq_getElem hlt⟩; obtain ⟨u, hui⟩ : ∃ u, rs[i]? = some u := ⟨_, List.getElem?_eq_getElem hil⟩; have hR2 := HRow.out i _ _ hxi hui; have hown := HO.out.own; obtain ⟨gL, cap, hgL, hgb, hgc⟩ := hown.form (by omega); injection hgL with hA hn hc; subst hA; (have hcell2 : w2.cell? ⟨gL, i, none⟩ = some u := by have := hown.cells (g := gL) rfl i _ hui; rwa [add_plain] at this); have hsame : wr.heap[gL]? = w2.heap[gL]? := HM.out gL (.inl rfl); have hcell : wr.cell? ⟨gL, i, none⟩ = some u := (World.cell?_of_block (a := ⟨gL, i, none⟩) hsame).trans hcell2; (have hRr := Kd.R_move hR2 (w1 := wr) fun k hk => HM.out k (.inr ⟨i, Nat.le_refl _, hk⟩)); obtain ⟨Ai, ci, ei⟩ := Kd.R_slice hRr; rw [ei] at hcell hRr; have HRr := zK_ hRr; (have p1 : (0 : Int) ≤ (i : Int) := by omega); (have p2 : (i : Int) < (L.length : Int) := by omega); (have hib : (i : Int) ≤ 1000000 := by have := HQ.out.2.1; omega); (have hq0 : (0 : Int) ≤ (q : Int) := by omega); (have hqb : (q : Int) ≤ 1000000 := by have := HQ.out.1; omega); have HLT := zK_ hlt; have HXI := zK_ hxi; have HGL := zK_ (HOL.out gL rfl); clear hR2 hown hgb hgc hsame hcell2 hRr hxi hui hlt hil ei hn hc; by_cases hq : i = q
    ·(have c1 : ((i : Int) == (q : Int)) = true := by simp [hq]); (have c2 : ((i : Int) != (q : Int)) = false := by simp [hq]); have HQI := zK_ hq; clear hq; go_wp2; go_roundw
     case rel =>
      refine ⟨i + 1, by go_num, ⟨by have := HLT.out; omega, HI.out.2⟩, HBr, ⟨fun k hk => HM.out k (hk.imp_right fun ⟨j, hj, h⟩ => ⟨j, by omega, h⟩)⟩, ⟨?_⟩⟩; have e : Cf.keepF q L (i + 1) = Cf.keepF q L i := if_pos HQI.out; rw [e]; exact Kd.S_mono HS.out fun k hk => hk.imp_left fun ⟨j, hj, h⟩ => ⟨j, by omega, h⟩
     case measure =>
      have := HLT.out; (simp [intOf]); omega
    (have c1 : ((i : Int) == (q : Int)) = false := by simp; omega); (have c2 : ((i : Int) != (q : Int)) = true := by simp; omega); have HQI := zK_ hq; clear hq; (go_wp2_with fail); refine (slices_Delete_int_int.calls (okj i) _ x (q : Int) _ (x.eraseIdx q) w wr HBr.out HRr.out ?hd).mono ?_
    case hd =>
     have hql : q < x.length := HQ.out.2.2 x (List.mem_of_getElem? HXI.out); unfold slices_Delete_int_int.f; rw [if_pos (by omega), if_pos (by omega), if_pos rfl, Int.toNat_natCast]
    rintro e w3 ⟨vD, rfl, hD, hb3, hk3⟩; obtain ⟨Ad, cd, ed⟩ := Kd.R_slice hD; subst ed; have HD := zK_ hD; have HB3 := zK_ hb3; have HK3 := zK_ hk3; clear hD hb3 hk3; have HSr := zK_ (Kd.S_mono (ok' := fun k => (((∃ j, j < i + 1 ∧ okj j k) ∨ w2.heap.size ≤ k) ∧ ¬ (okj i k ∨ wr.heap.size ≤ k))) (Kd.S_step (Kd.S_bound HS.out) (w1 := w3) fun k hk hlt => HK3.out.2 k hlt fun hi => hk.1.elim (fun ⟨j, hj, h⟩ => by have := HO.out.apart j i k h hi; omega) (fun h => by have := HSZ.out i k hi; omega)) fun k hk => ⟨hk.1.imp_left fun ⟨j, hj, h⟩ => ⟨j, by omega, h⟩, fun h => h.elim (fun hi => hk.1.elim (fun ⟨j, hj, h⟩ => by have := HO.out.apart j i k h hi; omega) (fun h => by have := HSZ.out i k hi; omega)) (fun h => by have := hk.2.2.1; omega)⟩); have HKL := zK_ (Cf.keepF_len q L i); (go_wp2_with (first | ((with_reducible refine gate_builtin (b := .append) (xs := #[.tmp 23, .tmp 29]) rfl ?_); at_builtin; refine Kd.S_append (Kd.slice 3 (Kd.int .i64)) (w0 := w) w.heap.size rfl (.tmp 23) (.tmp 29) 34 26 (.slice none 0 0) 24 rfl Try.underlying34 info26 rfl (by decide) (by omega) u5 (Cf.keepF q L i) (x.eraseIdx q) [.slice Ad (x.eraseIdx q).length cd] (fun k => (∃ j, j < i + 1 ∧ okj j k) ∨ w2.heap.size ≤ k) (fun k => okj i k ∨ wr.heap.size ≤ k) rfl rfl ?aP ?aK ?aF ?aO ?aB ?aS ?aL ?_; (case aP => exact Kd.M_row HD.out); (case aK => exact fun k hk => ⟨hk.elim (fun h => .inl ⟨i, by omega, h⟩) (fun h => .inr (by have := HI.out.2; omega)), fun e => (HSr.out.choose_spec.1 k e.symm).2 hk⟩); (case aF => exact fun k hk => .inr (by have := HI.out.2; have := HK3.out.1; omega)); (case aO => exact HSr.out); (case aB => exact HB3.out); (case aS => exact below_size HB3.out); (case aL => have := HKL.out; have := HQ.out.2.1; have := HLT.out; omega); intro v1 w4 ho hb hg hat; have HS4 := zK_ ho; have HB4 := zK_ hb; have HG4 := zK_ hg; clear ho hb hg hat))); go_roundw
    case rel =>
     refine ⟨i + 1, by go_num, ⟨by have := HLT.out; omega, by have := HI.out.2; have := HK3.out.1; have := HG4.out.size; omega⟩, HB4, ⟨fun k hk => ?_⟩, ⟨?_⟩⟩
     ·have hk2 : k < w2.heap.size ∧ ¬ (∃ j, j < i + 1 ∧ okj j k) := by
       rcases hk with hk | ⟨j, hj, h⟩
       ·(have : k = gL := by simpa [Value.ownBlock] using hk.symm); subst this; exact ⟨HGL.out, fun ⟨j, _, h⟩ => HO.out.off j k h rfl⟩
       ·exact ⟨HSZ.out j k h, fun ⟨j', hj', h'⟩ => by have := HO.out.apart j j' k h h'; omega⟩
      have hkr : k < wr.heap.size := Nat.lt_of_lt_of_le hk2.1 HI.out.2; (have h1 := HG4.out.block k (Nat.lt_of_lt_of_le hkr HK3.out.1) fun e => (HSr.out.choose_spec.1 k e.symm).1.elim hk2.2 fun h => by have := hk2.1; omega); (have h2 := HK3.out.2 k hkr fun h => hk2.2 ⟨i, by omega, h⟩); exact h1.trans (h2.trans (HM.out k (hk.imp_right fun ⟨j, hj, h⟩ => ⟨j, by omega, h⟩)))
     ·have e : Cf.keepF q L (i + 1) = Cf.keepF q L i ++ [x.eraseIdx q] := by
       show (if i = q then _ else _) = _; rw [if_neg HQI.out, List.getD_eq_getElem?_getD, HXI.out]; rfl
      rw [e]; exact HS4.out
    case measure =>
     have := HLT.out; (simp [intOf]); omega
  ·cases H
def impl_CountTrees.f (k : Nat) (aD : Int) (aA : List (S57)) : Option (Int) := (impl_GraphOk.f aD aA).bind fun aZ => (if aZ = true then ((impl_ReducedLaplacian.f k aD aA 0).bind fun bN => ((impl_Determinant.f k bN).bind fun dU => (some dU))) else (some 0))
theorem impl_CountTrees.mono : ∀ a0 a1 k, LeO (impl_CountTrees.f k a0 a1) (impl_CountTrees.f (k + 1) a0 a1) := by
 intro a0 a1 k; unfold impl_CountTrees.f; repeat' first | (with_reducible apply impl_Determinant.mono) | (with_reducible apply impl_ReducedLaplacian.mono) | (with_reducible exact LeO.refl _) | (with_reducible exact LeO.none _) | (with_reducible refine LeO.ite ?_ ?_) | (with_reducible refine LeO.bind ?_ (fun _ => ?_)) | apply impl_Determinant.mono | apply impl_ReducedLaplacian.mono | exact LeO.none _ | refine LeO.ite ?_ ?_ | refine LeO.bind ?_ (fun _ => ?_)
theorem impl_CountTrees.calls (k : Nat) (aD : Int) (aH : Option Addr) (aG : Nat) (aA : List (S57)) (r : Int) (w : World) (hr0_1 : Kd.C k57 w aH aA.length aA) (hc0_1 : aA.length ≤ aG) (h : impl_CountTrees.f k aD aA = some r) :
  Calls Try.prog 85 #[.agg #[.int .i64 aD, .slice aH aA.length aG]] w fun e w' => e = .returned (.int .i64 r) ∧ Below w.heap.size w w' := by
 have hu25 := Try.underlying25; have bL := zK_ hr0_1; have bG := zK_ hc0_1; clear hr0_1 hc0_1; have HB := zK_ (Below.refl w.heap.size w); have H : ((impl_GraphOk.f aD aA).bind fun aZ => (if aZ = true then ((impl_ReducedLaplacian.f k aD aA 0).bind fun bN => ((impl_Determinant.f k bN).bind fun dU => (some dU))) else (some 0))) = some r := h; clear h; obtain ⟨aZ, A20, H⟩ := zO_ H; (try dsimp only at H); have A2 := zK_ A20; clear A20; by_cases c3 : aZ = true; rotate_left
 ·replace c3 := Bool.eq_false_iff.mpr c3; subst c3; rw [if_neg (show ¬ (false = true) by decide)] at H; obtain rfl := Option.some.inj H; go_enter Try.func85, Try.ntmps85; (go_wp2_with (first | ((with_reducible refine gate_dst (N := 1) rfl ?_); refine box_event ?hg (N := 1) ?hd (cs := #[.int .i64 aD, .slice aH aA.length aG]) (t := 25) ?hr ?_; (case hd => rfl); (case hg => rfl); (case hr => exact zz9); intro aE hg w13 hbox hb; have n_ := zA4 (below_step zz1 hb) hbox (zz10 : w.heap.size ≤ aE) (zz10 : w.heap.size ≤ aE); clear HB; obtain ⟨HB, aC, GW101, GE101⟩ := n_; clear hb hbox hg; have eQ := zC20 aC; have eO := zC21 aC; have eH := blk_frozen aC.out 0; have eG := blk_frozen aC.out 1) | ((with_reducible refine gate_callee (f := 50) rfl ?_); refine goesL_ (some 4) rfl rfl Try.func50 (by kernel_rfl) rfl #[.agg #[.int .i64 aD, .slice aH aA.length aG]] rfl zz4 ?_; (with_reducible refine (impl_GraphOk.calls aD _ _ aA false _ ?side1 ?side2 A2.out).mono ?_); (case side1 => exact zz6); (case side2 => exact bG.out); rintro e w15 ⟨rfl, hb⟩; refine ⟨_, rfl, ?_⟩; have n_ := zA2 (blk_below (g := aE) (o := .cells #[.int .i64 aD, .slice aH aA.length aG] 25 (0, 0)) zz2 hb) (below_step zz0 hb); clear aC HB; obtain ⟨aC, HB⟩ := n_; clear hb))); go_ret; exact ⟨zz7, zz0⟩
 subst c3; rw [if_pos rfl] at H; obtain ⟨bN, A40, H⟩ := zO_ H; (try dsimp only at H); have A4 := zK_ A40; clear A40; obtain ⟨dU, A50, H⟩ := zO_ H; (try dsimp only at H); have A5 := zK_ A50; clear A50; obtain rfl := Option.some.inj H; go_enter Try.func85, Try.ntmps85; (go_wp2_with (first | ((with_reducible refine gate_dst (N := 1) rfl ?_); refine box_event ?hg (N := 1) ?hd (cs := #[.int .i64 aD, .slice aH aA.length aG]) (t := 25) ?hr ?_; (case hd => rfl); (case hg => rfl); (case hr => exact zz9); intro aE hg w6 hbox hb; have n_ := zA4 (below_step zz1 hb) hbox (zz10 : w.heap.size ≤ aE) (zz10 : w.heap.size ≤ aE); clear HB; obtain ⟨HB, aC, GW101, GE101⟩ := n_; clear hb hbox hg; have eM := zC20 aC; have eK := zC21 aC; have eE := blk_frozen aC.out 0; have d9 := blk_frozen aC.out 1) | ((with_reducible refine gate_callee (f := 50) rfl ?_); refine goesL_ (some 4) rfl rfl Try.func50 (by kernel_rfl) rfl #[.agg #[.int .i64 aD, .slice aH aA.length aG]] rfl zz4 ?_; (with_reducible refine (impl_GraphOk.calls aD _ _ aA true _ ?side1 ?side2 A2.out).mono ?_); (case side1 => exact zz6); (case side2 => exact bG.out); rintro e w8 ⟨rfl, hb⟩; refine ⟨_, rfl, ?_⟩; have n_ := zA2 (blk_below (g := aE) (o := .cells #[.int .i64 aD, .slice aH aA.length aG] 25 (0, 0)) zz2 hb) (below_step zz0 hb); clear aC HB; obtain ⟨aC, HB⟩ := n_; clear hb; have eJ := zC20 aC; have eI := zC21 aC; have d8 := blk_frozen aC.out 0; have d7 := blk_frozen aC.out 1) | ((with_reducible refine gate_callee (f := 121) rfl ?_); refine goesL_ (some 7) rfl rfl Try.func121 (by kernel_rfl) rfl #[.agg #[.int .i64 aD, .slice aH aA.length aG], .int .i64 0] rfl zz4 ?_; (with_reducible refine (impl_ReducedLaplacian.calls k aD _ _ aA 0 bN _ ?side1 ?side2 A4.out).mono ?_); (case side1 => exact zz6); (case side2 => exact bG.out); rintro e w10 ⟨v104, rfl, ho0, hb⟩; refine ⟨_, rfl, ?_⟩; have n_ := zA3 (Kd.S_lower ho0 (below_size zz0)) (blk_below (g := aE) (o := .cells #[.int .i64 aD, .slice aH aA.length aG] 25 (0, 0)) zz2 hb) (below_step zz0 hb); clear aC HB; obtain ⟨eZ, aC, HB⟩ := n_; clear ho0 hb; obtain ⟨Ao11, co11, rP⟩ := Kd.S_slice eZ.out; subst rP) | ((with_reducible refine gate_callee (f := 120) rfl ?_); refine goesL_ (some 8) rfl rfl Try.func120 (by kernel_rfl) rfl #[.slice Ao11 bN.length co11] rfl zz4 ?_; (with_reducible refine (impl_Determinant.calls k _ _ bN dU _ ?side1 ?side2 A5.out).mono ?_); (case side1 => repeat (first | exact (Kd.S_reads' eZ.out).2.2 | (with_reducible refine Kd.C_alloc ?_ _) | (with_reducible refine Kd.C_drewN ?_ _) | (with_reducible refine Kd.C_drew ?_))); (case side2 => exact (Kd.S_reads' eZ.out).2.1); rintro e w12 ⟨rfl, hb⟩; refine ⟨_, rfl, ?_⟩; have n_ := zA3 (Kd.S_below (by (with_reducible repeat (first | apply Kd.S_alloc | apply Kd.S_drewN | apply Kd.S_drew)); exact eZ.out) hb) (blk_below (g := aE) (o := .cells #[.int .i64 aD, .slice aH aA.length aG] 25 (0, 0)) zz2 hb) (below_step zz0 hb); clear eZ aC HB; obtain ⟨eZ, aC, HB⟩ := n_; clear hb))); go_ret; exact ⟨zz7, zz0⟩
def impl_GroupOrder.f (k : Nat) (aD : Int) (aA : List (S57)) : Option (Int) := (impl_CountTrees.f k aD aA).bind fun aZ => (some aZ)
theorem impl_GroupOrder.mono : ∀ a0 a1 k, LeO (impl_GroupOrder.f k a0 a1) (impl_GroupOrder.f (k + 1) a0 a1) := by
 intro a0 a1 k; unfold impl_GroupOrder.f; repeat' first | (with_reducible apply impl_CountTrees.mono) | (with_reducible exact LeO.refl _) | (with_reducible exact LeO.none _) | (with_reducible refine LeO.ite ?_ ?_) | (with_reducible refine LeO.bind ?_ (fun _ => ?_)) | apply impl_CountTrees.mono | exact LeO.none _ | refine LeO.ite ?_ ?_ | refine LeO.bind ?_ (fun _ => ?_)
theorem impl_GroupOrder.calls (k : Nat) (aD : Int) (aH : Option Addr) (aG : Nat) (aA : List (S57)) (r : Int) (w : World) (hr0_1 : Kd.C k57 w aH aA.length aA) (hc0_1 : aA.length ≤ aG) (h : impl_GroupOrder.f k aD aA = some r) :
  Calls Try.prog 48 #[.agg #[.int .i64 aD, .slice aH aA.length aG]] w fun e w' => e = .returned (.int .i64 r) ∧ Below w.heap.size w w' := by
 have hu25 := Try.underlying25; have bL := zK_ hr0_1; have bG := zK_ hc0_1; clear hr0_1 hc0_1; have HB := zK_ (Below.refl w.heap.size w); have H : ((impl_CountTrees.f k aD aA).bind fun aZ => (some aZ)) = some r := h; clear h; obtain ⟨aZ, A20, H⟩ := zO_ H; (try dsimp only at H); have A2 := zK_ A20; clear A20; obtain rfl := Option.some.inj H; go_enter Try.func48, Try.ntmps48; (go_wp2_with (first | ((with_reducible refine gate_dst (N := 1) rfl ?_); refine box_event ?hg (N := 1) ?hd (cs := #[.int .i64 aD, .slice aH aA.length aG]) (t := 25) ?hr ?_; (case hd => rfl); (case hg => rfl); (case hr => exact zz9); intro aE hg w3 hbox hb; have n_ := zA4 (below_step zz1 hb) hbox (zz10 : w.heap.size ≤ aE) (zz10 : w.heap.size ≤ aE); clear HB; obtain ⟨HB, aC, GW101, GE101⟩ := n_; clear hb hbox hg; have m8 := zC20 aC; have m7 := zC21 aC; have m6 := blk_frozen aC.out 0; have m5 := blk_frozen aC.out 1) | ((with_reducible refine gate_callee (f := 85) rfl ?_); refine goesL_ (some 4) rfl rfl Try.func85 (by kernel_rfl) rfl #[.agg #[.int .i64 aD, .slice aH aA.length aG]] rfl zz4 ?_; (with_reducible refine (impl_CountTrees.calls k aD _ _ aA aZ _ ?side1 ?side2 A2.out).mono ?_); (case side1 => exact zz6); (case side2 => exact bG.out); rintro e w5 ⟨rfl, hb⟩; refine ⟨_, rfl, ?_⟩; have n_ := zA2 (blk_below (g := aE) (o := .cells #[.int .i64 aD, .slice aH aA.length aG] 25 (0, 0)) zz2 hb) (below_step zz0 hb); clear aC HB; obtain ⟨aC, HB⟩ := n_; clear hb))); go_ret; exact ⟨zz7, zz0⟩
def slices_Index_int_int.l0 : Nat → List Int → Int → Int → Int → Option (Int)
 | 0, _, _, _, _ => none
 | k + 1, x0, x1, x7, x8 => if x8 < x7 then (if 0 ≤ x8 then (if x8 < (x0.length : Int) then (if x1 = (rd x0 x8) then (some x8) else (slices_Index_int_int.l0 k x0 x1 x7 (wrap64 (x8 + 1)))) else (none)) else (none)) else (some (-1))
def slices_Index_int_int.f (k : Nat) (l0 : List Int) (a1 : Int) : Option (Int) := slices_Index_int_int.l0 k l0 a1 (l0.length : Int) 0
theorem slices_Index_int_int.mono_l : ∀ k, (∀ y0 y1 y2 y3, LeO (slices_Index_int_int.l0 k y0 y1 y2 y3) (slices_Index_int_int.l0 (k + 1) y0 y1 y2 y3))
 | 0 => fun _ _ _ _ r h => by simp [slices_Index_int_int.l0] at h
 | k + 1 => by
  have ih0 := slices_Index_int_int.mono_l k
  ·intro y0 y1 y2 y3
   unfold slices_Index_int_int.l0
   exact zm0
theorem slices_Index_int_int.mono : ∀ a0 a1 k, LeO (slices_Index_int_int.f k a0 a1) (slices_Index_int_int.f (k + 1) a0 a1) := by
 intro a0 a1 k; have ih0 := slices_Index_int_int.mono_l k; unfold slices_Index_int_int.f; exact zm0
theorem slices_Index_int_int.calls (k : Nat) (A0 : Option Addr) (c0 : Nat) (l0 : List Int) (a1 : Int) (r : Int) (w : World) (hr0 : Kd.C (Kd.int .i64) w A0 l0.length l0) (hc0 : l0.length ≤ c0) (h : slices_Index_int_int.f k l0 a1 = some r) :
  Calls Try.prog 80 #[.slice A0 l0.length c0, .int .i64 a1] w fun e w' => e = .returned (.int .i64 r) ∧ Drawn0 w w' := by
 have HR0 := zK_ hr0; have HC0 := zK_ hc0; clear hr0 hc0; have H : (slices_Index_int_int.l0 k l0 a1 (l0.length : Int) 0) = some r := h; clear h; have H' := zK_ H; clear H; go_enter Try.func80, Try.ntmps80; go_wp2; (go_loopg [8] k (fun kq v8 w' => ∃ (bM : Int), v8 = .int .i64 bM ∧ Aside0 (slices_Index_int_int.l0 kq l0 a1 (l0.length : Int) bM = some r) ∧ Aside0 (kq ≤ k) ∧ Drawn0 w w')); case atStart => exact ⟨(0), zz5, H', ⟨Nat.le_refl _⟩, by repeat (first | exact Drawn0.refl _ | apply Drawn0.step)⟩
 case round =>
  clear H'; (try clear p2); obtain ⟨bM, rfl, HA, HK1, ⟨m1, rfl⟩⟩ := hrel
  cases gk with
  | zero => exact absurd HA.out (by simp [slices_Index_int_int.l0])
  | succ k1 =>
   have H := HA.out; clear HA; simp only [slices_Index_int_int.l0] at H; by_cases c3 : bM < (l0.length : Int); rotate_left
   ·rw [if_neg c3] at H; have dD := decide_eq_false c3; clear c3; obtain rfl := Option.some.inj H; go_wp2; go_ret; exact ⟨zz5, by repeat (first | exact Drawn0.refl _ | apply Drawn0.step)⟩
   rw [if_pos c3] at H; have dD := decide_eq_true c3; clear c3; by_cases c4 : 0 ≤ bM; rotate_left
   ·rw [if_neg c4] at H; exact absurd H (by simp)
   rw [if_pos c4] at H; have dB := decide_eq_true c4; clear c4; by_cases c5 : bM < (l0.length : Int); rotate_left
   ·rw [if_neg c5] at H; exact absurd H (by simp)
   rw [if_pos c5] at H; have dH := decide_eq_true c5; clear c5; by_cases c6 : a1 = (rd l0 bM)
   ·rw [if_pos c6] at H; have dY : (a1 == (rd l0 bM)) = true := beq_iff_eq.mpr c6; have j9 : (a1 != (rd l0 bM)) = false := bne_eq_false_iff_eq.mpr c6; clear c6; obtain rfl := Option.some.inj H; have p101 : 0 ≤ (bM : Int) := of_decide_eq_true zz3; have q101 : bM < (l0.length : Int) := of_decide_eq_true zz3; obtain ⟨b8, e101, a6⟩ := Kd.at_int HR0.out bM p101 q101; cases e101; replace p101 := eq_true p101; replace q101 := eq_true q101; go_wp2; go_ret; exact ⟨zz5, by repeat (first | exact Drawn0.refl _ | apply Drawn0.step)⟩
   rw [if_neg c6] at H; have dY : (a1 == (rd l0 bM)) = false := beq_eq_false_iff_ne.mpr c6; have j9 : (a1 != (rd l0 bM)) = true := bne_iff_ne.mpr c6; have H' := zK_ H; clear H; have p101 : 0 ≤ (bM : Int) := of_decide_eq_true zz3; have q101 : bM < (l0.length : Int) := of_decide_eq_true zz3; obtain ⟨b8, e101, a6⟩ := Kd.at_int HR0.out bM p101 q101; cases e101; replace p101 := eq_true p101; replace q101 := eq_true q101; go_wp2; go_roundg k1; (case measure => have := HK1.out; omega); case rel => exact ⟨(wrap64 (bM + 1)), zz5, H', ⟨zz34⟩, by repeat (first | exact Drawn0.refl _ | apply Drawn0.step)⟩
def slices_Contains_int_int.f (k : Nat) (l0 : List Int) (a1 : Int) : Option (Bool) := (slices_Index_int_int.f k l0 a1).bind fun dF => (some (decide (dF ≥ 0)))
theorem slices_Contains_int_int.mono : ∀ a0 a1 k, LeO (slices_Contains_int_int.f k a0 a1) (slices_Contains_int_int.f (k + 1) a0 a1) := by
 intro a0 a1 k; unfold slices_Contains_int_int.f; repeat' first | (with_reducible apply slices_Index_int_int.mono) | (with_reducible exact LeO.refl _) | (with_reducible exact LeO.none _) | (with_reducible refine LeO.ite ?_ ?_) | (with_reducible refine LeO.bind ?_ (fun _ => ?_)) | apply slices_Index_int_int.mono | exact LeO.none _ | refine LeO.ite ?_ ?_ | refine LeO.bind ?_ (fun _ => ?_)
theorem slices_Contains_int_int.calls (k : Nat) (A0 : Option Addr) (c0 : Nat) (l0 : List Int) (a1 : Int) (r : Bool) (w : World) (hr0 : Kd.C (Kd.int .i64) w A0 l0.length l0) (hc0 : l0.length ≤ c0) (h : slices_Contains_int_int.f k l0 a1 = some r) :
  Calls Try.prog 43 #[.slice A0 l0.length c0, .int .i64 a1] w fun e w' => e = .returned (.bool r) ∧ Drawn0 w w' := by
 have HR0 := zK_ hr0; have HC0 := zK_ hc0; clear hr0 hc0; have H : ((slices_Index_int_int.f k l0 a1).bind fun dF => (some (decide (dF ≥ 0)))) = some r := h; clear h; obtain ⟨dF, A30, H⟩ := zO_ H; (try dsimp only at H); have A3 := zK_ A30; clear A30; obtain rfl := Option.some.inj H; go_enter Try.func43, Try.ntmps43; (go_wp2_with (first | ((with_reducible refine gate_callee (f := 80) rfl ?_); refine goesL_ (some 7) rfl rfl Try.func80 (by kernel_rfl) rfl #[.slice A0 l0.length c0, .int .i64 a1] rfl zz4 ?_; (with_reducible refine (slices_Index_int_int.calls k _ _ l0 a1 dF _ ?side1 ?side2 A3.out).mono ?_); (case side1 => exact zz25); (case side2 => exact HC0.out); rintro e w' ⟨rfl, ⟨nd, rfl⟩⟩; refine ⟨_, rfl, ?_⟩))); go_ret; exact ⟨zz5, by repeat (first | exact Drawn0.refl _ | apply Drawn0.step)⟩
mutual
def impl_burn.l0 : Nat → List Int → List Int → Int → List (S57) → Option (List Int)
 | 0, _, _, _, _ => none
 | k + 1, x1, x7, aM, aJ => impl_burn.l1 k x1 x7 (-1) 0 aM aJ
def impl_burn.l1 : Nat → List Int → List Int → Int → Int → Int → List (S57) → Option (List Int)
 | 0, _, _, _, _, _, _ => none
 | k + 1, x1, x7, x8, x9, aM, aJ => if x9 < aM then (impl_burn.j2 k x1 x7 x8 x9 (decide (x8 < 0)) aM aJ) else (impl_burn.j2 k x1 x7 x8 x9 false aM aJ)
def impl_burn.j2 : Nat → List Int → List Int → Int → Int → Bool → Int → List (S57) → Option (List Int)
 | 0, _, _, _, _, _, _, _ => none
 | k + 1, x1, x7, x8, x9, qD, aM, aJ => if qD = true then (impl_burn.l2 k x1 x7 x8 x9 0 x7 (x7.length : Int) 0 aM aJ) else (if x8 < 0 then (some x7) else (if x7.length < 17592186044416 then (impl_burn.l0 k x1 (x7 ++ [x8]) aM aJ) else (none)))
def impl_burn.l2 : Nat → List Int → List Int → Int → Int → Int → List Int → Int → Int → Int → List (S57) → Option (List Int)
 | 0, _, _, _, _, _, _, _, _, _, _ => none
 | k + 1, x1, x7, x8, x9, fI, r8, oL, qC, aM, aJ => if qC < oL then (if 0 ≤ qC then (if qC < (r8.length : Int) then ((impl_Multiplicity.f k aM aJ x9 (rd r8 qC)).bind fun l5 => (impl_burn.l2 k x1 x7 x8 x9 (wrap64 (fI + l5)) r8 oL (wrap64 (qC + 1)) aM aJ)) else (none)) else (none)) else ((slices_Contains_int_int.f k x7 x9).bind fun kU => (if kU = true then (impl_burn.l1 k x1 x7 x8 (wrap64 (x9 + 1)) aM aJ) else (if 0 ≤ x9 then (if x9 < (x1.length : Int) then (if (rd x1 x9) < fI then (impl_burn.l1 k x1 x7 x9 (wrap64 (x9 + 1)) aM aJ) else (impl_burn.l1 k x1 x7 x8 (wrap64 (x9 + 1)) aM aJ)) else (none)) else (none))))
end
def impl_burn.f (k : Nat) (aD : Int) (aA : List (S57)) (l1 : List Int) (a2 : Int) : Option (List Int) := impl_burn.l0 k l1 (([a2] : List Int)) aD aA
theorem impl_burn.mono_l : ∀ k, (∀ y0 y1 y2 y3, LeO (impl_burn.l0 k y0 y1 y2 y3) (impl_burn.l0 (k + 1) y0 y1 y2 y3)) ∧ (∀ y0 y1 y2 y3 y4 y5, LeO (impl_burn.l1 k y0 y1 y2 y3 y4 y5) (impl_burn.l1 (k + 1) y0 y1 y2 y3 y4 y5)) ∧ (∀ y0 y1 y2 y3 y4 y5 y6, LeO (impl_burn.j2 k y0 y1 y2 y3 y4 y5 y6) (impl_burn.j2 (k + 1) y0 y1 y2 y3 y4 y5 y6)) ∧ (∀ y0 y1 y2 y3 y4 y5 y6 y7 y8 y9, LeO (impl_burn.l2 k y0 y1 y2 y3 y4 y5 y6 y7 y8 y9) (impl_burn.l2 (k + 1) y0 y1 y2 y3 y4 y5 y6 y7 y8 y9))
 | 0 => ⟨fun _ _ _ _ r h => by simp [impl_burn.l0] at h, fun _ _ _ _ _ _ r h => by simp [impl_burn.l1] at h, fun _ _ _ _ _ _ _ r h => by simp [impl_burn.j2] at h, fun _ _ _ _ _ _ _ _ _ _ r h => by simp [impl_burn.l2] at h⟩
 | k + 1 => by
  obtain ⟨ih0, ih1, ih2, ih3⟩ := impl_burn.mono_l k
  refine ⟨?_, ?_, ?_, ?_⟩
  ·intro y0 y1 y2 y3
   unfold impl_burn.l0
   exact zm2
  ·intro y0 y1 y2 y3 y4 y5
   unfold impl_burn.l1
   exact zm2
  ·intro y0 y1 y2 y3 y4 y5 y6
   unfold impl_burn.j2
   exact zm2
  ·intro y0 y1 y2 y3 y4 y5 y6 y7 y8 y9
   unfold impl_burn.l2
   exact zm2
theorem impl_burn.mono : ∀ a0 a1 a2 a3 k, LeO (impl_burn.f k a0 a1 a2 a3) (impl_burn.f (k + 1) a0 a1 a2 a3) := by
 intro a0 a1 a2 a3 k; obtain ⟨ih0, ih1, ih2, ih3⟩ := impl_burn.mono_l k; unfold impl_burn.f; exact zm2
theorem impl_burn.calls (k : Nat) (aD : Int) (aH : Option Addr) (aG : Nat) (aA : List (S57)) (A1 : Option Addr) (c1 : Nat) (l1 : List Int) (a2 : Int) (r : List Int) (w : World) (hr0_1 : Kd.C k57 w aH aA.length aA) (hc0_1 : aA.length ≤ aG) (hr1 : Kd.C (Kd.int .i64) w A1 l1.length l1) (hc1 : l1.length ≤ c1) (h : impl_burn.f k aD aA l1 a2 = some r) :
  Calls Try.prog 89 #[.agg #[.int .i64 aD, .slice aH aA.length aG], .slice A1 l1.length c1, .int .i64 a2] w fun e w' => ∃ v0_ : Value, e = .returned (v0_) ∧ Kd.R (Kd.int .i64) 3 w' w.heap.size (fun _ => True) v0_ r ∧ Below w.heap.size w w' := by
 have hu25 := Try.underlying25; have bL := zK_ hr0_1; have bG := zK_ hc0_1; clear hr0_1 hc0_1; have HR1 := zK_ hr1; have HC1 := zK_ hc1; clear hr1 hc1; have HB := zK_ (Below.refl w.heap.size w); have H : (impl_burn.l0 k l1 (([a2] : List Int)) aD aA) = some r := h; clear h; obtain ⟨fS, hy_⟩ : ∃ y_ : List Int, y_ = (([a2] : List Int)) := ⟨_, rfl⟩; (replace H : (impl_burn.l0 k l1 fS aD aA) = some r := zzY); have f8 := zK_ hy_; clear hy_; have H' := zK_ H; clear H; go_enter Try.func89, Try.ntmps89; (go_wp2_with (first | ((with_reducible refine gate_dst (N := 3) rfl ?_); refine box_event ?hg (N := 3) ?hd (cs := #[.int .i64 aD, .slice aH aA.length aG]) (t := 25) ?hr ?_; (case hd => rfl); (case hg => rfl); (case hr => exact zz9); intro aE hg w4 hbox hb; have n_ := zA4 (below_step zz1 hb) hbox (zz10 : w.heap.size ≤ aE) (zz10 : w.heap.size ≤ aE); clear HB; obtain ⟨HB, aC, GW101, GE101⟩ := n_; clear hb hbox hg) | ((with_reducible refine gate_dst (N := 14) rfl ?_); refine Kd.R_lit (Kd.int .i64) _ 3 ?hg (N := 14) ?hd (xs := ([a2] : List Int)) (inner := [.int .i64 a2]) (ok := fun _ => True) (okp := fun _ => True) ?hr ?hp (fun _ hk => hk) trivial (Below.refl _ _) (Nat.le_refl _) (by simp) ?_; (case hd => rfl); (case hg => rfl); (case hr => exact zz9); (case hp => exact (Reps.one (show Kd.M (Kd.int .i64) _ _ _ a2 [.int .i64 a2] from rfl) (Reps.none _ _))); intro v103 w5 ho6 hb hg_ hnew_; clear hg_ hnew_; (first | rw [← f8.out] at ho6 | (simp only [Int.reduceToNat] at ho6; rw [← f8.out] at ho6)); have n_ := zA3 (Kd.R_lower ho6 (below_size zz0)) (blk_below (g := aE) (o := .cells #[.int .i64 aD, .slice aH aA.length aG] 25 (0, 0)) zz2 hb) (below_step zz0 hb); clear aC HB; obtain ⟨cG, aC, HB⟩ := n_; clear hb ho6))); (go_loopg [7] k (fun kq v7 w' => ∃ (b9 : List Int), Aside0 (impl_burn.l0 kq l1 b9 aD aA = some r) ∧ Aside0 (kq ≤ k) ∧ Aside0 (Kd.R (Kd.int .i64) 3 w' w.heap.size (fun _ => True) v7 b9) ∧ Aside0 (w'.heap[aE]? = some (.cells #[.int .i64 aD, (.slice aH aA.length aG)] 25 (0, 0))) ∧ Aside0 (Below w.heap.size w w'))); case atStart => exact ⟨(fS), H', ⟨Nat.le_refl _⟩, ⟨by (with_reducible repeat (first | apply Kd.R_alloc | apply Kd.R_drewN | apply Kd.R_drew)); exact cG.out⟩, ⟨zz2⟩, ⟨zz0⟩⟩
 case round =>
  clear H'; (try clear c1); (try clear p2); obtain ⟨b9, HA, HK1, f9, aC, HB⟩ := hrel
  cases gk with
  | zero => exact absurd HA.out (by simp [impl_burn.l0])
  | succ k1 =>
   have H := HA.out; clear HA; simp only [impl_burn.l0] at H; have H' := zK_ H; clear H; go_wp2; (go_loopg [8, 9] k1 (fun kq v8 v9 w' => ∃ (j7 : Int) (dC : Int), v8 = .int .i64 j7 ∧ v9 = .int .i64 dC ∧ Aside0 (impl_burn.l1 kq l1 b9 j7 dC aD aA = some r) ∧ Aside0 (kq ≤ k1) ∧ Aside0 (Kd.R (Kd.int .i64) 3 w' w.heap.size (fun _ => True) u7 b9) ∧ Aside0 (w'.heap[aE]? = some (.cells #[.int .i64 aD, (.slice aH aA.length aG)] 25 (0, 0))) ∧ Aside0 (Below w.heap.size w w'))); case atStart => exact ⟨((-1)), (0), zz5, zz5, H', ⟨Nat.le_refl _⟩, ⟨zz24⟩, ⟨zz2⟩, ⟨zz0⟩⟩
   case round =>
    clear H'; (try clear c1); (try clear p2); (try clear p2); obtain ⟨j7, dC, rfl, rfl, HA, HK2, f9, aC, HB⟩ := hrel
    cases gk with
    | zero => exact absurd HA.out (by simp [impl_burn.l1])
    | succ k2 =>
     have H := HA.out; clear HA; simp only [impl_burn.l1] at H; have HC7 := zK_ H; clear H; (go_upto_region 4 with (fail)); go_cut [22] (fun v22 wc => ∃ (kq : Nat) (nE : Bool), v22 = .bool nE ∧ Aside0 (impl_burn.j2 kq l1 b9 j7 dC nE aD aA = some r) ∧ Aside0 (kq ≤ k2) ∧ Aside0 (Kd.R (Kd.int .i64) 3 wc w.heap.size (fun _ => True) u7 b9) ∧ Aside0 (wc.heap[aE]? = some (.cells #[.int .i64 aD, (.slice aH aA.length aG)] 25 (0, 0))) ∧ Aside0 (Below w.heap.size w wc))
     case first =>
      have H := HC7.out; clear HC7; by_cases c8 : dC < aD
      ·rw [if_pos c8] at H; have fP := decide_eq_true c8; clear c8; (first | rw [fP] | (simp only [i64_w, i32_w]; rw [fP]) | skip); have H' := zK_ H; clear H; have eJ := zC20 aC; have eI := zC21 aC; have d8 := blk_frozen aC.out 0; have d7 := blk_frozen aC.out 1; go_wp2; (go_meet); case rel => exact ⟨_, (decide (j7 < 0)), zz5, H', ⟨by have := HK1.out; have := HK2.out; first | omega | exact Nat.le_refl _⟩, ⟨zz24⟩, ⟨zz2⟩, ⟨zz0⟩⟩
      rw [if_neg c8] at H; have fP := decide_eq_false c8; clear c8; (first | rw [fP] | (simp only [i64_w, i32_w]; rw [fP]) | skip); have H' := zK_ H; clear H; have cK := zC20 aC; have cJ := zC21 aC; have cI := blk_frozen aC.out 0; have cH := blk_frozen aC.out 1; go_wp2; (go_meet); case rel => exact ⟨_, (false), zz5, H', ⟨by have := HK1.out; have := HK2.out; first | omega | exact Nat.le_refl _⟩, ⟨zz24⟩, ⟨zz2⟩, ⟨zz0⟩⟩
     case rest =>
      clear HC7; (try clear c1); (try clear p2); (try clear c8); (try clear fP); (try clear cK); (try clear cJ); (try clear eJ); (try clear eI); (try clear cI); (try clear cH); (try clear d8); (try clear d7); (try clear p2); obtain ⟨kq, nE, rfl, HA, HJ6, f9, aC, HB⟩ := hcut
      cases kq with
      | zero => exact absurd HA.out (by simp [impl_burn.j2])
      | succ kj6 =>
       have H := HA.out; clear HA; simp only [impl_burn.j2] at H; by_cases c11 : nE = true; rotate_left
       ·replace c11 := Bool.eq_false_iff.mpr c11; subst c11; rw [if_neg (show ¬ (false = true) by decide)] at H; by_cases c24 : j7 < 0
        ·rw [if_pos c24] at H; have pK := decide_eq_true c24; clear c24; obtain rfl := Option.some.inj H; go_wp2; go_ret; exact ⟨_, zz7, zz24, zz0⟩
        rw [if_neg c24] at H; have pK := decide_eq_false c24; clear c24; by_cases c25 : b9.length < 17592186044416; rotate_left
        ·rw [if_neg c25] at H; exact absurd H (by simp)
        rw [if_pos c25] at H; have mS := zK_ c25; clear c25; obtain ⟨dW, hy_⟩ : ∃ y_ : List Int, y_ = (b9 ++ [j7]) := ⟨_, rfl⟩; (replace H : (impl_burn.l0 kj6 l1 dW aD aA) = some r := zzY); have g5 := zK_ hy_; clear hy_; have H' := zK_ H; clear H; (go_wp2_with (first | ((with_reducible refine gate_builtin (b := .append) (xs := #[.tmp 54, .tmp 56]) rfl ?_); at_builtin; refine Kd.R_append (Kd.int .i64) (w0 := w) w.heap.size rfl (.tmp 54) (.tmp 56) 26 3 (.int .i64 0) 8 rfl Try.underlying26 info3 rfl (by decide) (by omega) u7 b9 j7 [.int .i64 j7] (fun _ => True) (fun _ => False) rfl rfl ?aP (fun _ hk => hk.elim) ?aF ?aO ?aB ?aS ?aL ?_; (case aP => exact rfl); (case aB => exact zz0); (case aF => exact (fun _ _ => trivial)); (case aO => exact zz24); (case aS => exact (below_size zz0)); (case aL => have := mS.out; omega); intro v106 w26 ho hb hg hat; rw [← g5.out] at ho; have n_ := zA3 (blk_grown (g := aE) (o := .cells #[.int .i64 aD, .slice aH aA.length aG] 25 (0, 0)) zz2 hg (Kd.R_ne f9.out aC.out (by decide))) hb ho; clear aC HB f9; obtain ⟨aC, HB, cZ⟩ := n_; clear ho hb hg hat))); go_roundg kj6; (case measure => have := HK1.out; have := HK2.out; have := HJ6.out; omega); case rel => exact ⟨(dW), H', ⟨by have := HK1.out; have := HK2.out; have := HJ6.out; omega⟩, ⟨by (with_reducible repeat (first | apply Kd.R_alloc | apply Kd.R_drewN | apply Kd.R_drew)); exact cZ.out⟩, ⟨zz2⟩, ⟨zz0⟩⟩
       subst c11; rw [if_pos rfl] at H; have H' := zK_ H; clear H; obtain ⟨Ao12, co12, m9⟩ := Kd.R_slice f9.out; subst m9; go_wp2; (go_loopg [10, 27] kj6 (fun kq v10 v27 w' => ∃ (l4 : Int) (iA : Int), v10 = .int .i64 l4 ∧ v27 = .int .i64 iA ∧ Aside0 (impl_burn.l2 kq l1 b9 j7 dC l4 b9 (b9.length : Int) iA aD aA = some r) ∧ Aside0 (kq ≤ kj6) ∧ Aside0 (Kd.R (Kd.int .i64) 3 w' w.heap.size (fun _ => True) (.slice Ao12 b9.length co12) b9) ∧ Aside0 (Kd.R (Kd.int .i64) 3 w' w.heap.size (fun _ => True) (.slice Ao12 b9.length co12) b9) ∧ Aside0 (w'.heap[aE]? = some (.cells #[.int .i64 aD, (.slice aH aA.length aG)] 25 (0, 0))) ∧ Aside0 (Below w.heap.size w w'))); case atStart => exact ⟨(0), (0), zz5, zz5, H', ⟨Nat.le_refl _⟩, ⟨zz24⟩, ⟨zz24⟩, ⟨zz2⟩, ⟨zz0⟩⟩
       case round =>
        clear H'; (try clear c1); (try clear p2); (try clear c8); (try clear fP); (try clear c11); (try clear cK); (try clear cJ); (try clear eJ); (try clear eI); (try clear cI); (try clear cH); (try clear d8); (try clear d7); (try clear p2); obtain ⟨l4, iA, rfl, rfl, HA, HK4, f9, mT, aC, HB⟩ := hrel
        cases gk with
        | zero => exact absurd HA.out (by simp [impl_burn.l2])
        | succ k4 =>
         have H := HA.out; clear HA; simp only [impl_burn.l2] at H; by_cases c13 : iA < (b9.length : Int)
         ·rw [if_pos c13] at H; have i1 := decide_eq_true c13; clear c13; by_cases c14 : 0 ≤ iA; rotate_left
          ·rw [if_neg c14] at H; exact absurd H (by simp)
          rw [if_pos c14] at H; have gJ := decide_eq_true c14; clear c14; by_cases c15 : iA < (b9.length : Int); rotate_left
          ·rw [if_neg c15] at H; exact absurd H (by simp)
          rw [if_pos c15] at H; have iK := decide_eq_true c15; clear c15; obtain ⟨l5, A160, H⟩ := zO_ H; (try dsimp only at H); have A16 := zK_ A160; clear A160; have H' := zK_ H; clear H; have p108 : 0 ≤ (iA : Int) := of_decide_eq_true zz3; have q108 : iA < (b9.length : Int) := of_decide_eq_true zz3; obtain ⟨BR, e108, uF⟩ := Kd.at_int (Kd.R_reads' mT.out).2.2 iA p108 q108; cases e108; replace p108 := eq_true p108; replace q108 := eq_true q108; have iV := zC20 aC; have iU := zC21 aC; have iR := blk_frozen aC.out 0; have iQ := blk_frozen aC.out 1; (go_wp2_with (first | ((with_reducible refine gate_callee (f := 123) rfl ?_); refine goesL_ (some 35) rfl rfl Try.func123 (by kernel_rfl) rfl #[.agg #[.int .i64 aD, .slice aH aA.length aG], .int .i64 dC, .int .i64 (rd b9 iA)] rfl zz4 ?_; (with_reducible refine (impl_Multiplicity.calls k4 aD _ _ aA dC (rd b9 iA) l5 _ ?side1 ?side2 A16.out).mono ?_); (case side1 => exact zz6); (case side2 => exact bG.out); rintro e w18 ⟨rfl, hb⟩; refine ⟨_, rfl, ?_⟩; have n_ := zA4 (Kd.R_below zz24 hb) (Kd.R_below (by (with_reducible repeat (first | apply Kd.R_alloc | apply Kd.R_drewN | apply Kd.R_drew)); exact mT.out) hb) (blk_below (g := aE) (o := .cells #[.int .i64 aD, .slice aH aA.length aG] 25 (0, 0)) zz2 hb) (below_step zz0 hb); clear f9 mT aC HB; obtain ⟨f9, mT, aC, HB⟩ := n_; clear hb))); go_roundg k4; (case measure => have := HK1.out; have := HK2.out; have := HJ6.out; have := HK4.out; omega); case rel => exact ⟨(wrap64 (l4 + l5)), (wrap64 (iA + 1)), zz5, zz5, H', ⟨by have := HK1.out; have := HK2.out; have := HJ6.out; have := HK4.out; omega⟩, ⟨zz24⟩, ⟨by (with_reducible repeat (first | apply Kd.R_alloc | apply Kd.R_drewN | apply Kd.R_drew)); exact mT.out⟩, ⟨zz2⟩, ⟨zz0⟩⟩
         rw [if_neg c13] at H; have i1 := decide_eq_false c13; clear c13; obtain ⟨kU, A190, H⟩ := zO_ H; (try dsimp only at H); have A19 := zK_ A190; clear A190; by_cases c20 : kU = true
         ·subst c20; rw [if_pos rfl] at H; have H' := zK_ H; clear H; (go_wp2_with (first | ((with_reducible refine gate_callee (f := 43) rfl ?_); refine goesL_ (some 40) rfl rfl Try.func43 (by kernel_rfl) rfl #[.slice Ao12 b9.length co12, .int .i64 dC] rfl zz4 ?_; (with_reducible refine (slices_Contains_int_int.calls k4 _ _ b9 dC true _ ?side1 ?side2 A19.out).mono ?_); (case side1 => repeat (first | exact (Kd.R_reads' f9.out).2.2 | (with_reducible refine Kd.C_alloc ?_ _) | (with_reducible refine Kd.C_drewN ?_ _) | (with_reducible refine Kd.C_drew ?_))); (case side2 => exact (Kd.R_reads' f9.out).2.1); rintro e w' ⟨rfl, ⟨nd, rfl⟩⟩; refine ⟨_, rfl, ?_⟩))); go_roundg k4; (case measure => have := HK1.out; have := HK2.out; have := HJ6.out; have := HK4.out; omega); case rel => exact ⟨(j7), (wrap64 (dC + 1)), zz5, zz5, H', ⟨by have := HK1.out; have := HK2.out; have := HJ6.out; have := HK4.out; omega⟩, ⟨zz24⟩, ⟨zz2⟩, ⟨zz0⟩⟩
         replace c20 := Bool.eq_false_iff.mpr c20; subst c20; rw [if_neg (show ¬ (false = true) by decide)] at H; by_cases c21 : 0 ≤ dC; rotate_left
         ·rw [if_neg c21] at H; exact absurd H (by simp)
         rw [if_pos c21] at H; have iZ := decide_eq_true c21; clear c21; by_cases c22 : dC < (l1.length : Int); rotate_left
         ·rw [if_neg c22] at H; exact absurd H (by simp)
         rw [if_pos c22] at H; have k6 := decide_eq_true c22; clear c22; by_cases c23 : (rd l1 dC) < l4
         ·rw [if_pos c23] at H; have n7 := decide_eq_true c23; clear c23; have H' := zK_ H; clear H; (go_wp2_with (first | ((with_reducible refine gate_callee (f := 43) rfl ?_); refine goesL_ (some 40) rfl rfl Try.func43 (by kernel_rfl) rfl #[.slice Ao12 b9.length co12, .int .i64 dC] rfl zz4 ?_; (with_reducible refine (slices_Contains_int_int.calls k4 _ _ b9 dC false _ ?side1 ?side2 A19.out).mono ?_); (case side1 => repeat (first | exact (Kd.R_reads' f9.out).2.2 | (with_reducible refine Kd.C_alloc ?_ _) | (with_reducible refine Kd.C_drewN ?_ _) | (with_reducible refine Kd.C_drew ?_))); (case side2 => exact (Kd.R_reads' f9.out).2.1); rintro e w' ⟨rfl, ⟨nd, rfl⟩⟩; refine ⟨_, rfl, ?_⟩; have p111 : 0 ≤ (dC : Int) := of_decide_eq_true zz3; have q111 : dC < (l1.length : Int) := of_decide_eq_true zz3; obtain ⟨tO, e111, g9⟩ := Kd.at_int HR1.out dC p111 q111; cases e111; replace g9 := (HB.out.cell (World.block_lt_of_cell? w _ g9)).trans g9; replace p111 := eq_true p111; replace q111 := eq_true q111))); go_roundg k4; (case measure => have := HK1.out; have := HK2.out; have := HJ6.out; have := HK4.out; omega); case rel => exact ⟨(dC), (wrap64 (dC + 1)), zz5, zz5, H', ⟨by have := HK1.out; have := HK2.out; have := HJ6.out; have := HK4.out; omega⟩, ⟨zz24⟩, ⟨zz2⟩, ⟨zz0⟩⟩
         rw [if_neg c23] at H; have n7 := decide_eq_false c23; clear c23; have H' := zK_ H; clear H; (go_wp2_with (first | ((with_reducible refine gate_callee (f := 43) rfl ?_); refine goesL_ (some 40) rfl rfl Try.func43 (by kernel_rfl) rfl #[.slice Ao12 b9.length co12, .int .i64 dC] rfl zz4 ?_; (with_reducible refine (slices_Contains_int_int.calls k4 _ _ b9 dC false _ ?side1 ?side2 A19.out).mono ?_); (case side1 => repeat (first | exact (Kd.R_reads' f9.out).2.2 | (with_reducible refine Kd.C_alloc ?_ _) | (with_reducible refine Kd.C_drewN ?_ _) | (with_reducible refine Kd.C_drew ?_))); (case side2 => exact (Kd.R_reads' f9.out).2.1); rintro e w' ⟨rfl, ⟨nd, rfl⟩⟩; refine ⟨_, rfl, ?_⟩; have p111 : 0 ≤ (dC : Int) := of_decide_eq_true zz3; have q111 : dC < (l1.length : Int) := of_decide_eq_true zz3; obtain ⟨tO, e111, g9⟩ := Kd.at_int HR1.out dC p111 q111; cases e111; replace g9 := (HB.out.cell (World.block_lt_of_cell? w _ g9)).trans g9; replace p111 := eq_true p111; replace q111 := eq_true q111))); go_roundg k4; (case measure => have := HK1.out; have := HK2.out; have := HJ6.out; have := HK4.out; omega); case rel => exact ⟨(j7), (wrap64 (dC + 1)), zz5, zz5, H', ⟨by have := HK1.out; have := HK2.out; have := HJ6.out; have := HK4.out; omega⟩, ⟨zz24⟩, ⟨zz2⟩, ⟨zz0⟩⟩
end Go.Proofs.Ytnbljcgdgblgoaa.P
end

section
namespace Go.Proofs.Ytnbljcgdgblgoaa.P
open Go.RowKit Go.Proofs.YtnbljcgdgblgoaaW.PrintWords Go.Proofs.YtnbljcgdgblgoaaW.PrintLast Go.Proofs.YtnbljcgdgblgoaaW.PrintMore
attribute [local go_sem] max2_int min2_int max_two min_two max_three min_three max_four min_four
set_option linter.unusedVariables false
set_option linter.unusedSimpArgs false
def impl_copyInts.f (l0 : List Int) : Option (List Int) := if ([] : List Int).length + l0.length < 17592186044416 then (some (([] : List Int) ++ l0)) else (none)
theorem impl_copyInts.calls (A0 : Option Addr) (c0 : Nat) (l0 : List Int) (r : List Int) (w : World) (hr0 : Kd.C (Kd.int .i64) w A0 l0.length l0) (hc0 : l0.length ≤ c0) (h : impl_copyInts.f l0 = some r) :
  Calls Try.prog 86 #[.slice A0 l0.length c0] w fun e w' => ∃ v0_ : Value, e = .returned (v0_) ∧ Kd.R (Kd.int .i64) 3 w' w.heap.size (fun _ => True) v0_ r ∧ Below w.heap.size w w' := by
 have HR0 := zK_ hr0; have HC0 := zK_ hc0; clear hr0 hc0; have HB := zK_ (Below.refl w.heap.size w); have H : (if ([] : List Int).length + l0.length < 17592186044416 then (some (([] : List Int) ++ l0)) else (none)) = some r := h; clear h; by_cases c2 : ([] : List Int).length + l0.length < 17592186044416; rotate_left
 ·rw [if_neg c2] at H; exact absurd H (by simp)
 rw [if_pos c2] at H; have yS := zK_ c2; clear c2; obtain ⟨fE, hy_⟩ : ∃ y_ : List Int, y_ = (([] : List Int) ++ l0) := ⟨_, rfl⟩; (replace H : (some fE) = some r := zzY); have gK := zK_ hy_; clear hy_; obtain rfl := Option.some.inj H; go_enter Try.func86, Try.ntmps86; (go_wp2_with (first | ((with_reducible refine gate_builtin (b := .append) (xs := #[.const (.slice none 0 0), .tmp 3]) rfl ?_); at_builtin; refine Kd.R_append_rows (Kd.int .i64) (w0 := w) w.heap.size rfl (.const (.slice none 0 0)) (.tmp 3) 26 3 (.int .i64 0) 8 rfl Try.underlying26 info3 rfl (by decide) (by omega) (.slice none 0 0) ([] : List Int) l0 _ _ _ (fun _ => True) (fun _ => False) rfl rfl ?aO ?aR (fun _ _ h => h) (fun _ h => h.elim) ?aF ?aB ?aS ?aL ?_; (case aR => exact zz25); (case aB => exact zz1); (case aF => exact (fun _ _ => trivial)); (case aO => exact ((Kd.R_nil _ _ _ _ (fun _ => True)))); (case aS => exact (below_size zz1)); (case aL => have := yS.out; omega); intro v102 w3 ho hb hg hat; rw [← gK.out] at ho; have n_ := zA2 hb ho; clear HB; obtain ⟨HB, jV⟩ := n_; clear ho hb hg hat))); go_ret; exact ⟨_, zz7, zz41, zz1⟩
def impl_reducedAt.pr (k : Nat) (a0 : Int) (es : List S57) (q : Int) (x : List Int) : Bool := match impl_burn.f k a0 es x q with | some r => decide ((r.length : Int) < a0) | none => false
structure impl_reducedAt.Ctx (a0 q : Int) (es : List S57) (A0 : Option Addr) (c0 bg bq g cap : Nat) (ok : Nat → Prop) (f : Nat → Nat) (cur : Array Value) (rows : List (List Int)) (w0 w : World) : Prop where
 hb : Below w0.heap.size w0 w
 hg : w.heap[bg]? = some (.cells #[.int .i64 a0, .slice A0 es.length c0] 25 (0, 0))
 hq : w.heap[bq]? = some (.cells #[.int .i64 q] 3 (0, 0))
 hc : w.heap[g]? = some (.cells cur 26 (0, 0))
 hH : Cf.Heads w w0.heap.size ok f cur rows.zipIdx
theorem impl_reducedAt.Ctx.step {a0 q : Int} {es : List S57} {A0 : Option Addr} {c0 bg bq g cap : Nat} {ok : Nat → Prop} {f : Nat → Nat} {cur : Array Value} {rows : List (List Int)} {w0 w w1 : World} (h : impl_reducedAt.Ctx a0 q es A0 c0 bg bq g cap ok f cur rows w0 w) (hb : Below w.heap.size w w1) : impl_reducedAt.Ctx a0 q es A0 c0 bg bq g cap ok f cur rows w0 w1 :=
 ⟨below_step h.hb hb, blk_below h.hg hb, blk_below h.hq hb, blk_below h.hc hb, Cf.heads_step h.hH fun k _ hlt => hb.block k hlt⟩
theorem impl_reducedAt.Ctx.row {a0 q : Int} {es : List S57} {A0 : Option Addr} {c0 bg bq g cap : Nat} {ok : Nat → Prop} {f : Nat → Nat} {cur : Array Value} {rows : List (List Int)} {w0 w : World} (h : impl_reducedAt.Ctx a0 q es A0 c0 bg bq g cap ok f cur rows w0 w) {j : Nat} (hj : j < rows.length) : ∃ A c, cur[j]? = some (.slice A rows[j].length c) ∧ Kd.R (Kd.int .i64) 3 w w0.heap.size (fun k => ok k ∧ f k = j) (.slice A rows[j].length c) rows[j] := by
 obtain ⟨v, hv, hR⟩ := h.hH j rows[j] j (by rw [List.getElem?_zipIdx, List.getElem?_eq_getElem hj, Nat.zero_add]; rfl); obtain ⟨A, c, e⟩ := Kd.R_slice hR; subst e; exact ⟨A, c, hv, hR⟩
def impl_reducedAt.T1 : Bool × List (List Nat × List Nat) := (true, [([], []), ([], []), ([], []), ([0, 1, 2], [0, 1, 2]), ([3], [3]), ([], []), ([5], [5]), ([4, 6], [4, 6]), ([7, 3, 0, 1, 2, 3, 4, 5, 6, 7], [7])])
def impl_reducedAt.B1 : List Nat := [0, 0, 0, 7, 15, 0, 32, 127, 255]
theorem impl_reducedAt.tab1 : rtab .any (opsOf Try.f88 1) = impl_reducedAt.T1 := by kernel_rfl
theorem impl_reducedAt.bits1 : waitsOk impl_reducedAt.T1.2 impl_reducedAt.B1 = true := by kernel_rfl
theorem impl_reducedAt.clo (k : Nat) (a0 q : Int) (es : List S57) (A0 : Option Addr) (c0 bg bq : Nat) (w : World) (hE : Kd.C k57 w A0 es.length es) (hc0 : es.length ≤ c0) (hg : w.heap[bg]? = some (.cells #[.int .i64 a0, .slice A0 es.length c0] 25 (0, 0))) (hq : w.heap[bq]? = some (.cells #[.int .i64 q] 3 (0, 0))) (Ax : Option Addr) (cx : Nat) (x r : List Int) (hx : Kd.C (Kd.int .i64) w Ax x.length x) (hcx : x.length ≤ cx) (h : impl_burn.f k a0 es x q = some r) :
  Calls Try.prog 88 #[.slice Ax x.length cx, .pointer (some ⟨bg, 0, none⟩), .pointer (some ⟨bq, 0, none⟩)] w fun e w' => e = .returned (.bool (impl_reducedAt.pr k a0 es q x)) ∧ Below w.heap.size w w' := by
 have hu25 := Try.underlying25; (have hpr : impl_reducedAt.pr k a0 es q x = decide ((r.length : Int) < a0) := by unfold impl_reducedAt.pr; rw [h]); rw [hpr]; have HE := Aside0.mk hE; have HC := Aside0.mk hc0; have HG := Aside0.mk hg; have HQ := Aside0.mk hq; have HX := Aside0.mk hx; have HCX := Aside0.mk hcx; have HH := Aside0.mk h; clear hE hc0 hg hq hx hcx h hpr; go_enter Try.func88, Try.ntmps88; (try go_wp2); refine start_ (n := 9) (S := fun w' => w'.cell? ⟨bg, 0, none⟩ = some (.int .i64 a0) ∧ w'.cell? ⟨bg, 1, none⟩ = some (.slice A0 es.length c0) ∧ w'.cell? ⟨bq, 0, none⟩ = some (.int .i64 q)) (ds := []) (zM 9 0) (by kernel_rfl) rfl rfl ⟨(blk_cell HG.out 0).trans rfl, (blk_cell HG.out 1).trans rfl, (blk_cell HQ.out 0).trans rfl⟩ (fun hHeld => ?_); refine with_tabW impl_reducedAt.tab1 impl_reducedAt.bits1 (fun HT_ HW_ => ?_); have HB1 := Aside0.mk (below_drew (Below.refl w.heap.size w)); have HG1 := Aside0.mk (blk_below HG.out HB1.out); have BS := Aside0.mk (blk_below HQ.out HB1.out); have HE1 := Aside0.mk (Kd.C_below HE.out HB1.out); have HX1 := Aside0.mk (Kd.C_below HX.out HB1.out); generalize w.drew = wd at HB1 HG1 BS HE1 HX1 hHeld ⊢; refine zQ 1 6 (zM 9 2) ?_
 refine zQ 5 10 (zM 9 34) ?_
 refine take_ (i := 0) (N := some 5) (v := ?_) (a' := ?_) (zM 9 35) rfl rfl (take_ofW HT_.out HW_.out (by kernel_rfl)) (fun _ _ _ h => h) (Or.inl ⟨by rfl, ?_⟩) hHeld ?_ ?_; rotate_left
 ·rintro w' ⟨s0, s1, s2⟩; exact zzT
 rotate_left
 ·exact zzS
 refine take_ (i := 2) (N := some 7) (v := ?_) (a' := ?_) (zM 9 39) rfl rfl (take_ofW HT_.out HW_.out (by kernel_rfl)) (fun _ _ _ h => h) (Or.inl ⟨by rfl, ?_⟩) hHeld ?_ ?_; rotate_left
 ·rintro w' ⟨s0, s1, s2⟩; exact zzT
 rotate_left
 ·exact zzS
 refine take_ (i := 6) (N := some 11) (v := ?_) (a' := ?_) (zM 9 103) rfl rfl (take_ofW HT_.out HW_.out (by kernel_rfl)) (fun _ _ _ h => h) (Or.inl ⟨by rfl, ?_⟩) hHeld ?_ ?_; rotate_left
 ·rintro w' ⟨s0, s1, s2⟩; exact zzT
 rotate_left
 ·exact zzS
 refine one_ (i := 3) (N := some 8) (zM 9 111) rfl rfl (one_of HT_.out (by kernel_rfl)) (by decide) (fun K hK => ?_); refine goes_ Try.func89 (by kernel_rfl) rfl #[.agg #[.int .i64 a0, .slice A0 es.length c0], .slice Ax x.length cx, .int .i64 q] (by rfl) rfl rfl zz28 ?_; refine (impl_burn.calls k a0 _ _ es _ _ x q r _ HE1.out HC.out HX1.out HCX.out HH.out).mono ?_; rintro e w2 ⟨v2, rfl, hR, hb⟩; obtain ⟨Ar, cr, er⟩ := Kd.R_slice hR; subst er; have HB2 := Aside0.mk (below_step HB1.out hb); have HG2 := Aside0.mk (blk_below HG1.out hb); have B0 := Aside0.mk (blk_below BS.out hb); clear hR hb; refine ⟨_, rfl, ?_⟩; refine hK.out _ _ ⟨(blk_cell HG2.out 0).trans rfl, (blk_cell HG2.out 1).trans rfl, (blk_cell B0.out 0).trans rfl⟩ (fun hHeld => ?_); clear hK K; refine norm_ (a' := ?_) ?_ ?_; rotate_left
 ·show Act.put _ (some 8) _ = _; exact zzS
 refine zQ 4 9 (zM 9 127) ?_
 refine zQ 7 12 (zM 9 255) ?_
 refine zQ 8 4 (zM 9 511) ?_
 refine done_ (done_of HT_.out (by kernel_rfl)) ?_; (try go_wp2); go_ret; exact ⟨rfl, HB2.out⟩
theorem impl_reducedAt.idx (k : Nat) (a0 q : Int) (es : List S57) (A0 : Option Addr) (c0 bg bq g cap : Nat) (ok : Nat → Prop) (f : Nat → Nat) (cur : Array Value) (rows : List (List Int)) (w0 w : World) (hE : Kd.C k57 w0 A0 es.length es) (hc0 : es.length ≤ c0) (hI : impl_reducedAt.Ctx a0 q es A0 c0 bg bq g cap ok f cur rows w0 w) (hl : rows.length ≤ 1000000000) (hcap : rows.length ≤ cap) (hP : ∀ x ∈ rows, (impl_burn.f k a0 es x q).isSome = true) :
  Calls Try.prog 122 #[.slice (some ⟨g, 0, none⟩) rows.length cap, .func (.func 88) #[] #[.pointer (some ⟨bg, 0, none⟩), .pointer (some ⟨bq, 0, none⟩)]] w fun e w' => Below w.heap.size w w' ∧ ((e = .returned (.int .i64 (-1)) ∧ ∀ x ∈ rows, impl_reducedAt.pr k a0 es q x = false) ∨ ∃ i : Nat, e = .returned (.int .i64 (i : Int)) ∧ i < rows.length ∧ (∀ j, (h : j < rows.length) → j < i → impl_reducedAt.pr k a0 es q rows[j] = false) ∧ ∀ h : i < rows.length, impl_reducedAt.pr k a0 es q rows[i] = true) := by
 have HE := Aside0.mk hE; have HC := Aside0.mk hc0; have HI := Aside0.mk hI; have HL := Aside0.mk hl; have HCAP := Aside0.mk hcap; have HP := Aside0.mk hP; clear hE hc0 hI hl hcap hP; go_enter Try.func122, Try.ntmps122; go_wp2; (go_loopw [8] (fun v8 wr => ∃ i : Nat, v8 = .int .i64 (i : Int) ∧ Aside0 (i ≤ rows.length) ∧ Aside0 (impl_reducedAt.Ctx a0 q es A0 c0 bg bq g cap ok f cur rows w0 wr) ∧ Aside0 (Below w.heap.size w wr) ∧ Aside0 (∀ j, (h : j < rows.length) → j < i → impl_reducedAt.pr k a0 es q rows[j] = false)) (fun v _ => rows.length - (intOf v).toNat)); case atStart => exact ⟨0, rfl, ⟨Nat.zero_le _⟩, HI, ⟨Below.refl _ _⟩, ⟨fun j _ h => absurd h (by omega)⟩⟩
 case round =>
  obtain ⟨i, rfl, HIL, HIr, HBr, HF⟩ := hrel; by_cases hlt : i < rows.length; rotate_left
  ·have d0 : decide ((i : Int) < (rows.length : Int)) = false := decide_eq_false (by omega); have d1 : decide (i < rows.length) = false := decide_eq_false hlt; (have hi : i = rows.length := by have := HIL.out; omega); clear hlt; go_wp2; go_ret; refine ⟨HBr.out, Or.inl ⟨rfl, fun x hx => ?_⟩⟩; obtain ⟨j, hj, rfl⟩ := List.getElem_of_mem hx; exact HF.out j hj (by omega)
  have d0 : decide ((i : Int) < (rows.length : Int)) = true := decide_eq_true (by omega); have d1 : decide (i < rows.length) = true := decide_eq_true hlt; (have p1 : (0 : Int) ≤ (i : Int) := by omega); (have p2 : (i : Int) < (rows.length : Int) := by omega); (have hib : (i : Int) ≤ 1000000000 := by have := HL.out; omega); obtain ⟨Ai, ci, hcur, hRi⟩ := HIr.out.row hlt; have hcell : wr.cell? ⟨g, i, none⟩ = some (.slice Ai rows[i].length ci) := (blk_cell HIr.out.hc i).trans hcur; obtain ⟨r, hr⟩ := Option.isSome_iff_exists.1 (HP.out _ (List.getElem_mem hlt)); have HRR := Aside0.mk hr; have HRi := Aside0.mk (Kd.R_reads' hRi); have HLT := Aside0.mk hlt; clear hcur hRi hr; generalize hx : rows[i]'HLT.out = x at hcell HRR HRi; have HXX := Aside0.mk hx; clear hx hlt; (go_wp2_with fail); refine (impl_reducedAt.clo k a0 q es A0 c0 bg bq _ (Kd.C_below HE.out HIr.out.hb) HC.out HIr.out.hg HIr.out.hq _ _ x r HRi.out.2.2 HRi.out.2.1 HRR.out).mono ?_; rintro e w1 ⟨rfl, hb⟩; have HI1 := Aside0.mk (HIr.out.step hb); have HB1 := Aside0.mk (below_step HBr.out hb); clear hb hcell
  cases hp : impl_reducedAt.pr k a0 es q x with
  | true =>
   go_wp2; go_ret; exact ⟨HB1.out, Or.inr ⟨i, rfl, HLT.out, HF.out, fun h => by rw [HXX.out]; exact hp⟩⟩
  | false =>
   have HPP := Aside0.mk hp; clear hp; go_wp2; go_roundw
   case rel =>
    refine ⟨i + 1, by go_num, ⟨HLT.out⟩, HI1, HB1, ⟨fun j h hj => ?_⟩⟩; by_cases e : j = i
    ·subst e; rw [HXX.out]; exact HPP.out
    ·exact HF.out j h (by omega)
   case measure =>
    have := HLT.out; (simp [intOf]); omega
theorem impl_reducedAt.cutl {P : Program} (t e : TypeId) {i : TypeInfo} (ht : P.underlying t = some (.slice e)) (hi : P.info? e = some i) (hsz : i.size = 1) (g n c l : Nat) (hl : l ≤ n) (hc : l < c) : ∀ W : World, (Instr.slice t (.slice (some ⟨g, 0, none⟩) n c) (some (.int .i64 (l : Int))) none none).run P W = .ok (.slice (some ⟨g, l, none⟩) (n - l) (c - l)) W := by
 intro W; (have hel : P.elem t = e := by simp [Program.elem, ht]); (have hu : P.underlying t = some (.slice (P.elem t)) := by rw [hel]; exact ht); rw [run_slice_l W t (some ⟨g, 0, none⟩) n c hu .i64 (l : Int) (by omega) (by omega), hel]; (have hne : ¬ (c = l) := by omega); (simp [sizeOf, typeInfo, hi, hsz, sliced, Result.andThen, Addr.add, hne]); omega
theorem impl_reducedAt.cuth {P : Program} (t e : TypeId) {i : TypeInfo} (ht : P.underlying t = some (.slice e)) (hi : P.info? e = some i) (hsz : i.size = 1) (g n c h : Nat) (hc : h ≤ c) : ∀ W : World, (Instr.slice t (.slice (some ⟨g, 0, none⟩) n c) none (some (.int .i64 (h : Int))) none).run P W = .ok (.slice (some ⟨g, 0, none⟩) h c) W := by
 intro W; (have hel : P.elem t = e := by simp [Program.elem, ht]); (have hu : P.underlying t = some (.slice (P.elem t)) := by rw [hel]; exact ht); rw [run_slice_h W t (some ⟨g, 0, none⟩) n c hu .i64 (h : Int) (by omega) (by omega), hel]; simp [sizeOf, typeInfo, hi, hsz, sliced, Result.andThen, Addr.add]
theorem impl_reducedAt.del (k : Nat) (a0 q : Int) (es : List S57) (A0 : Option Addr) (c0 bg bq g cap : Nat) (ok : Nat → Prop) (f : Nat → Nat) (cur : Array Value) (rows : List (List Int)) (w0 w : World) (hE : Kd.C k57 w0 A0 es.length es) (hc0 : es.length ≤ c0) (hI : impl_reducedAt.Ctx a0 q es A0 c0 bg bq g cap ok f cur rows w0 w) (hl : rows.length ≤ 1000000000) (hcap : rows.length ≤ cap) (hP : ∀ x ∈ rows, (impl_burn.f k a0 es x q).isSome = true) (hcs : cur.size = cap) (hcm : cap ≤ maxLen) (hbg : w0.heap.size ≤ g) (hok : ∀ k_, ok k_ → k_ ≠ g) (hne : bg ≠ g ∧ bq ≠ g) :
  Calls Try.prog 87 #[.slice (some ⟨g, 0, none⟩) rows.length cap, .func (.func 88) #[] #[.pointer (some ⟨bg, 0, none⟩), .pointer (some ⟨bq, 0, none⟩)]] w fun e w' => ∃ v : Value, e = .returned v ∧ Kd.S (Kd.slice 3 (Kd.int .i64)) 26 w' w0.heap.size (fun k_ => ok k_ ∨ k_ = g) v (rows.filter fun x => !impl_reducedAt.pr k a0 es q x) ∧ Below w0.heap.size w0 w' := by
 have hidx := impl_reducedAt.idx k a0 q es A0 c0 bg bq g cap ok f cur rows w0 w hE hc0 hI hl hcap hP; have HE := Aside0.mk hE; have HC := Aside0.mk hc0; have HI := Aside0.mk hI; have HL := Aside0.mk hl; have HCAP := Aside0.mk (show rows.length ≤ cap ∧ cur.size = cap ∧ cap ≤ maxLen from ⟨hcap, hcs, hcm⟩); have HP := Aside0.mk hP; have HBG := Aside0.mk hbg; have HOK := Aside0.mk hok; have HNE := Aside0.mk hne; have HIDX := Aside0.mk hidx; (have hnb : (rows.length : Int) ≤ 1000000000 := by omega); clear hE hc0 hI hl hcap hP hcs hcm hbg hok hne hidx; go_enter Try.func87, Try.ntmps87; (go_wp2_with fail); refine HIDX.out.mono ?_; rintro e w1 ⟨hb, hcase⟩; have HI1 := Aside0.mk (HI.out.step hb); clear hb HIDX; rcases hcase with ⟨rfl, hall⟩ | ⟨i0, rfl, hi0, hbef, hat⟩
 ·have HALL := Aside0.mk hall; clear hall; go_wp2; go_ret; (have ef : (rows.filter fun x => !impl_reducedAt.pr k a0 es q x) = rows := List.filter_eq_self.2 fun x hx => by rw [HALL.out x hx]; rfl); rw [ef]; refine ⟨_, rfl, Kd.S_mono (Cf.heads_S (ok := fun k_ => ok k_ ∨ k_ = g) (f := f) HBG.out (Or.inr rfl) HCAP.out.1 HCAP.out.2.2 HCAP.out.2.1 HI1.out.hc ?_) (fun k_ h => h), HI1.out.hb⟩; intro j x i hj; obtain ⟨v, hv, hR⟩ := HI1.out.hH j x i hj; exact ⟨v, hv, Kd.R_mono hR fun k_ h => ⟨Or.inl h.1, h.2⟩⟩
 ·have c0_ : ((i0 : Int) == -1) = false := beq_eq_false_iff_ne.2 (by omega); have c1_ : decide ((i0 : Int) = -1) = false := decide_eq_false (by omega); obtain ⟨jn, ej⟩ : ∃ x : Int, wrap64 ((i0 : Int) + 1) = x := ⟨_, rfl⟩; have ejw : IntKind.i64.wrap ((i0 : Int) + 1) = jn := (i64_w _).trans ej; have HJN := Aside0.mk (show jn = ((i0 + 1 : Nat) : Int) from by rw [← ej]; unfold wrap64; omega); have HI0 := Aside0.mk hi0; have HBEF := Aside0.mk hbef; have HAT := Aside0.mk (hat HI0.out); clear hi0 hbef hat; go_wp2; go_loopw [5, 6, 7] (fun v5 v6 v7 wr => ∃ (i j : Nat) (cr : Array Value), v5 = .int .i64 (i : Int) ∧ v6 = .int .i64 (j : Int) ∧ Aside0 (i < j ∧ j ≤ rows.length ∧ (Cf.keptZ (impl_reducedAt.pr k a0 es q) rows j).length = i) ∧ Aside0 (cr.size = cap ∧ wr.heap[g]? = some (.cells cr 26 (0, 0))) ∧ Aside0 (Cf.Heads wr w0.heap.size ok f cr (Cf.keptZ (impl_reducedAt.pr k a0 es q) rows j)) ∧ Aside0 (∀ t, t < rows.length → j ≤ t → cr[t]? = cur[t]?) ∧ Aside0 (Below w0.heap.size w0 wr ∧ wr.heap[bg]? = some (.cells #[.int .i64 a0, .slice A0 es.length c0] 25 (0, 0)) ∧ wr.heap[bq]? = some (.cells #[.int .i64 q] 3 (0, 0))) ∧ Aside0 (Cf.Heads wr w0.heap.size ok f cur rows.zipIdx)) (fun _ v _ _ => rows.length - (intOf v).toNat)
  case atStart =>
   (have hz : (Cf.keptZ (impl_reducedAt.pr k a0 es q) rows (i0 + 1)) = rows.zipIdx.take i0 := by rw [Cf.keptZ_succ _ HI0.out, if_pos HAT.out, List.append_nil]; exact Cf.keptZ_pre _ rows (Nat.le_of_lt HI0.out) HBEF.out); refine ⟨i0, i0 + 1, cur, rfl, by rw [HJN.out], ⟨by omega, HI0.out, ?_⟩, ⟨HCAP.out.2.1, HI1.out.hc⟩, ⟨?_⟩, ⟨fun t _ _ => rfl⟩, ⟨HI1.out.hb, HI1.out.hg, HI1.out.hq⟩, ⟨HI1.out.hH⟩⟩
   ·rw [hz, List.length_take, List.length_zipIdx]; have := HI0.out; omega
   ·rw [hz]; exact Cf.heads_take HI1.out.hH _
  case round =>
   clear HI1; obtain ⟨i, j, cr, rfl, rfl, HIJ, HCR, HZ, HT, HB, HH⟩ := hrel; (have hij : (i : Int) < (j : Int) := by have := HIJ.out; omega); (have hi0 : (0 : Int) ≤ (i : Int) := by omega); by_cases hlt : j < rows.length; rotate_left
   ·have d0 : decide ((j : Int) < (rows.length : Int)) = false := decide_eq_false (by omega); have d1 : decide (j < rows.length) = false := decide_eq_false hlt; (have hjn : j = rows.length := by have := HIJ.out; omega); (have hin : i < rows.length := by have := HIJ.out; omega); (have hic : i < cap := by have := HCAP.out.1; omega); (have hil : i ≤ cap := by omega); obtain ⟨it, hit, hzt, hszt, hbt⟩ := info_parts info26; have hcutl := impl_reducedAt.cutl (P := Try.prog) 34 26 Try.underlying34 hit hszt g rows.length cap i (Nat.le_of_lt hin) hic; have hcuth := impl_reducedAt.cuth (P := Try.prog) 34 26 Try.underlying34 hit hszt g rows.length cap i hil; (have hcl : ∀ ty, (Builtin.clear_ #[34] ty #[.slice (some ⟨g, i, none⟩) (rows.length - i) (cap - i)]).run Try.prog wr = .ok (.tuple #[]) (wr.setCells g i (List.replicate (rows.length - i) (.slice none 0 0))) := fun ty => Lib.run_clear_slice wr _ _ ty _ Try.underlying34 Try.zeroValue26 rfl rfl g i _ _ (by omega) (fun t ht => by rw [blk_cell HCR.out.2, Array.getElem?_eq_getElem (show i + t < cr.size by have := HCR.out.1; have := HCAP.out.1; omega)]; rfl) (fun t ht => blk_frozen HCR.out.2 _)); have HJ := Aside0.mk hjn; have HIN := Aside0.mk hin; clear hlt hit hzt hszt hbt hjn; go_wp2; go_ret; obtain ⟨cu2, hc2, hs2, ht2⟩ := setCells_row (List.replicate (rows.length - i) (Value.slice none 0 0)) i wr cr HCR.out.2 (by rw [List.length_replicate]; have := HCR.out.1; have := HCAP.out.1; have := HIN.out; omega); (have hfar : ∀ k_, k_ ≠ g → (wr.setCells g i (List.replicate (rows.length - i) (Value.slice none 0 0))).heap[k_]? = wr.heap[k_]? := fun k_ hk => setCells_far _ i k_ hk); obtain ⟨s1, s2, s3, s4⟩ := setCells_same g (List.replicate (rows.length - i) (Value.slice none 0 0)) i wr; (have hlen : (rows.filter fun x => !impl_reducedAt.pr k a0 es q x).length = i := by rw [← Cf.keptZ_all, List.length_map, ← HJ.out]; exact HIJ.out.2.2); have hZ := HZ.out; rw [HJ.out] at hZ; have hK := Cf.kept_S (w := wr.setCells g i (List.replicate (rows.length - i) (Value.slice none 0 0))) (base := w0.heap.size) (g := g) (cap := cap) (ok := fun k_ => ok k_ ∨ k_ = g) (f := f) (cur := cu2) (rows := rows) (p := impl_reducedAt.pr k a0 es q) HBG.out (Or.inr rfl) HCAP.out.1 HCAP.out.2.2 (hs2.trans HCR.out.1) hc2 ?hh
    case hh =>
     have hcells : ∀ t, t < (Cf.keptZ (impl_reducedAt.pr k a0 es q) rows rows.length).length → cu2[t]? = cr[t]? := by
      intro t ht; (have hti : t < i := by have h_ := HIJ.out.2.2; rw [HJ.out] at h_; omega); rw [← Array.getElem?_toList, ← Array.getElem?_toList, ht2, List.append_assoc, List.getElem?_append_left (by rw [List.length_take, Array.length_toList]; have := HCR.out.1; have := HCAP.out.1; have := HIN.out; omega), List.getElem?_take, if_pos hti]
     have h1 := Cf.heads_cells hZ hcells; (have h2 := Cf.heads_step (w1 := wr.setCells g i (List.replicate (rows.length - i) (Value.slice none 0 0))) h1 fun k_ h _ => hfar k_ (HOK.out k_ h)); intro t x u ht; obtain ⟨v, hv, hR⟩ := h2 t x u ht; exact ⟨v, hv, Kd.R_mono hR fun k_ h => ⟨Or.inl h.1, h.2⟩⟩
    rw [hlen] at hK; refine ⟨_, rfl, hK, ⟨s1.trans HB.out.1.os, s2.trans HB.out.1.tape, s3.trans HB.out.1.output, by rw [s4]; exact HB.out.1.size, fun k_ hk => (hfar k_ (by have := HBG.out; omega)).trans (HB.out.1.block k_ hk)⟩⟩
   have d0 : decide ((j : Int) < (rows.length : Int)) = true := decide_eq_true (by omega); have d1 : decide (j < rows.length) = true := decide_eq_true hlt; (have p1 : (0 : Int) ≤ (j : Int) := by omega); (have p2 : (j : Int) < (rows.length : Int) := by omega); (have p3 : (i : Int) < (rows.length : Int) := by omega); obtain ⟨v, hv, hR⟩ := HH.out j rows[j] j (by rw [List.getElem?_zipIdx, List.getElem?_eq_getElem hlt, Nat.zero_add]; rfl); obtain ⟨Ai, ci, ei⟩ := Kd.R_slice hR; subst ei; have hcell : wr.cell? ⟨g, j, none⟩ = some (.slice Ai rows[j].length ci) := (blk_cell HCR.out.2 j).trans ((HT.out j hlt (Nat.le_refl _)).trans hv); obtain ⟨r, hr⟩ := Option.isSome_iff_exists.1 (HP.out _ (List.getElem_mem hlt)); have HRR := Aside0.mk hr; have HRi := Aside0.mk (Kd.R_reads' hR); have HRX := Aside0.mk hR; have HLT := Aside0.mk hlt; clear hv hR hr; generalize hx : rows[j]'HLT.out = x at hcell HRR HRi HRX; have HXX := Aside0.mk hx; clear hx hlt; (go_wp2_with fail); refine (impl_reducedAt.clo k a0 q es A0 c0 bg bq _ (Kd.C_below HE.out HB.out.1) HC.out HB.out.2.1 HB.out.2.2 _ _ x r HRi.out.2.2 HRi.out.2.1 HRR.out).mono ?_; rintro e w2 ⟨rfl, hb⟩; have HCR2 := Aside0.mk (show cr.size = cap ∧ w2.heap[g]? = some (.cells cr 26 (0, 0)) from ⟨HCR.out.1, blk_below HCR.out.2 hb⟩); have HZ2 := Aside0.mk (Cf.heads_step HZ.out fun k_ _ hlt => hb.block k_ hlt); have HH2 := Aside0.mk (Cf.heads_step HH.out fun k_ _ hlt => hb.block k_ hlt); have HB2 := Aside0.mk (show Below w0.heap.size w0 w2 ∧ w2.heap[bg]? = some (.cells #[.int .i64 a0, .slice A0 es.length c0] 25 (0, 0)) ∧ w2.heap[bq]? = some (.cells #[.int .i64 q] 3 (0, 0)) from ⟨below_step HB.out.1 hb, blk_below HB.out.2.1 hb, blk_below HB.out.2.2 hb⟩); have HRX2 := Aside0.mk (Kd.R_below HRX.out hb); clear hb hcell HCR HZ HH HB HRX
   cases hp : impl_reducedAt.pr k a0 es q x with
   | true =>
    have HPP := Aside0.mk hp; clear hp; go_wp2; go_roundw
    case rel =>
     (have hz : (Cf.keptZ (impl_reducedAt.pr k a0 es q) rows (j + 1)) = (Cf.keptZ (impl_reducedAt.pr k a0 es q) rows j) := by rw [Cf.keptZ_succ _ HLT.out, HXX.out, if_pos HPP.out, List.append_nil]); refine ⟨i, j + 1, cr, rfl, by go_num, ⟨by have := HIJ.out; omega, HLT.out, by rw [hz]; exact HIJ.out.2.2⟩, HCR2, ⟨by rw [hz]; exact HZ2.out⟩, ⟨fun t h1 h2 => HT.out t h1 (by omega)⟩, HB2, HH2⟩
    case measure =>
     have := HLT.out; (simp [intOf]); omega
   | false =>
    have HPP := Aside0.mk hp; clear hp; obtain ⟨old, hold⟩ : ∃ old, cr[i]? = some old := ⟨_, Array.getElem?_eq_getElem (show i < cr.size by have := HIJ.out; have := HCR2.out.1; have := HCAP.out.1; omega)⟩; have hzi : w2.cell? ⟨g, i, none⟩ = some old := (blk_cell HCR2.out.2 i).trans hold; have hfz := blk_frozen HCR2.out.2 i; clear hold; go_wp2; go_roundw
    case rel =>
     clear hzi hfz; (have hz : (Cf.keptZ (impl_reducedAt.pr k a0 es q) rows (j + 1)) = (Cf.keptZ (impl_reducedAt.pr k a0 es q) rows j) ++ [(x, j)] := by rw [Cf.keptZ_succ _ HLT.out, HXX.out, if_neg (by rw [HPP.out]; simp)]); (have hset : ∀ k_, ok k_ → k_ < w2.heap.size → (w2.setCell ⟨g, i, none⟩ (.slice Ai x.length ci)).heap[k_]? = w2.heap[k_]? := fun k_ h _ => Below.heap_setCell w2 _ _ k_ (HOK.out k_ h)); refine ⟨i + 1, j + 1, cr.setIfInBounds i (.slice Ai x.length ci), by go_num, by go_num, ⟨by have := HIJ.out; omega, HLT.out, by rw [hz, List.length_append, HIJ.out.2.2]; rfl⟩, ⟨by rw [Array.size_setIfInBounds]; exact HCR2.out.1, blk_set HCR2.out.2 i _⟩, ⟨?_⟩, ⟨fun t h1 h2 => ?_⟩, ⟨below_set HB2.out.1 HBG.out, blk_far HB2.out.2.1 HNE.out.1 _, blk_far HB2.out.2.2 HNE.out.2 _⟩, ⟨Cf.heads_step HH2.out hset⟩⟩
     ·rw [hz]; have h1 := Cf.heads_push HZ2.out (v := .slice Ai x.length ci) (x := x) (t := j) (by have := HIJ.out; have := HCR2.out.1; have := HCAP.out.1; omega) HRX2.out; rw [HIJ.out.2.2] at h1; exact Cf.heads_step h1 hset
     ·rw [Array.getElem?_setIfInBounds_ne (by have := HIJ.out; omega)]; exact HT.out t h1 (by omega)
    case measure =>
     have := HLT.out; (simp [intOf]); omega
def impl_reducedAt.cnt (k : Nat) (a0 : Int) (es : List S57) (q : Int) (v : Nat) : Nat := if (v : Int) = q then 1 else ((impl_Valence.f k a0 es (v : Int)).getD 0).toNat
abbrev impl_reducedAt.ok0 (k : Nat) (a0 : Int) (es : List S57) (q : Int) : Prop := (0 ≤ a0 ∧ a0 ≤ 6) ∧ ∀ v, v < a0.toNat → (impl_Valence.f k a0 es (v : Int)).isSome = true ∧ 0 ≤ (impl_Valence.f k a0 es (v : Int)).getD 0 ∧ (impl_Valence.f k a0 es (v : Int)).getD 0 ≤ 24
abbrev impl_reducedAt.ok1 (k : Nat) (a0 : Int) (es : List S57) (q : Int) : Prop := ∀ x ∈ Cf.boxL (impl_reducedAt.cnt k a0 es q) a0.toNat, (impl_burn.f k a0 es x q).isSome = true
def impl_reducedAt.f (k : Nat) (a0 : Int) (es : List S57) (q : Int) : Option (List (List Int)) := if impl_reducedAt.ok0 k a0 es q ∧ impl_reducedAt.ok1 k a0 es q ∧ 0 < (Cf.boxL (impl_reducedAt.cnt k a0 es q) a0.toNat).length then some ((Cf.boxL (impl_reducedAt.cnt k a0 es q) a0.toNat).filter fun x => !impl_reducedAt.pr k a0 es q x) else none
theorem impl_reducedAt.val_up (k : Nat) {a0 : Int} {es : List S57} {v : Int} (h : (impl_Valence.f k a0 es v).isSome = true) : impl_Valence.f (k + 1) a0 es v = impl_Valence.f k a0 es v := by
 obtain ⟨b, hb⟩ := Option.isSome_iff_exists.1 h; rw [hb, impl_Valence.mono _ _ _ k _ hb]
theorem impl_reducedAt.burn_up (k : Nat) {a0 q : Int} {es : List S57} {x : List Int} (h : (impl_burn.f k a0 es x q).isSome = true) : impl_burn.f (k + 1) a0 es x q = impl_burn.f k a0 es x q := by
 obtain ⟨b, hb⟩ := Option.isSome_iff_exists.1 h; rw [hb, impl_burn.mono _ _ _ _ k _ hb]
theorem impl_reducedAt.box_congr {c d : Nat → Nat} : ∀ {n : Nat}, (∀ v, v < n → c v = d v) → Cf.boxL c n = Cf.boxL d n
 | 0, _ => rfl
 | n + 1, h => by rw [Cf.boxL, Cf.boxL, impl_reducedAt.box_congr fun v hv => h v (by omega), h n (by omega)]
theorem impl_reducedAt.mono : ∀ a0 a1 a2 k, LeO (impl_reducedAt.f k a0 a1 a2) (impl_reducedAt.f (k + 1) a0 a1 a2) := by
 intro a0 es q k r h; unfold impl_reducedAt.f at h ⊢; (split at h); (case isFalse => cases h); rename_i hc; (have e1 : Cf.boxL (impl_reducedAt.cnt (k + 1) a0 es q) a0.toNat = Cf.boxL (impl_reducedAt.cnt k a0 es q) a0.toNat := impl_reducedAt.box_congr fun v hv => by unfold impl_reducedAt.cnt; rw [impl_reducedAt.val_up k (hc.1.2 v hv).1]); have h0 : impl_reducedAt.ok0 (k + 1) a0 es q := ⟨hc.1.1, fun v hv => by rw [impl_reducedAt.val_up k (hc.1.2 v hv).1]; exact hc.1.2 v hv⟩; (have h1 : impl_reducedAt.ok1 (k + 1) a0 es q := by unfold impl_reducedAt.ok1; rw [e1]; exact fun x hx => by rw [impl_reducedAt.burn_up k (hc.2.1 x hx)]; exact hc.2.1 x hx); rw [if_pos ⟨h0, h1, by rw [e1]; exact hc.2.2⟩, ← h, e1]; (congr 1); (refine List.filter_congr fun x hx => ?_); unfold impl_reducedAt.pr; rw [impl_reducedAt.burn_up k (hc.2.1 x hx)]
theorem impl_reducedAt.calls (k : Nat) (aD : Int) (aH : Option Addr) (aG : Nat) (aA : List S57) (a1 : Int) (r : List (List Int)) (w : World) (hr0_1 : Kd.C k57 w aH aA.length aA) (hc0_1 : aA.length ≤ aG) (h : impl_reducedAt.f k aD aA a1 = some r) :
  Calls Try.prog 49 #[.agg #[.int .i64 aD, .slice aH aA.length aG], .int .i64 a1] w fun e w' => ∃ v0_ : Value, e = .returned (v0_) ∧ Kd.S (Kd.slice 3 (Kd.int .i64)) 26 w' w.heap.size (fun _ => True) v0_ r ∧ Below w.heap.size w w' := by
 have hu25 := Try.underlying25; have HE := zK_ hr0_1; have HC := zK_ hc0_1; clear hr0_1 hc0_1; unfold impl_reducedAt.f at h; (split at h); (case isFalse => cases h); rename_i hc; obtain rfl := Option.some.inj h; clear h; obtain ⟨⟨⟨hn0, hn6⟩, hv⟩, hbn, hpos⟩ := hc; obtain ⟨n, rfl⟩ := Int.eq_ofNat_of_zero_le hn0; unfold impl_reducedAt.ok1 at hbn; rw [Int.toNat_natCast] at hv hbn hpos ⊢; have HPOS := zK_ hpos; clear hpos; have HV := zK_ hv; have HBN := zK_ hbn; have HN := zK_ (show n ≤ 6 from by omega); (have hcb : ∀ u, u < n → impl_reducedAt.cnt k (n : Int) aA a1 u ≤ 24 := fun u hu => by unfold impl_reducedAt.cnt; split; omega; have := (hv u hu).2.2; omega); (have hln : ∀ v, v ≤ n → (Cf.boxL (impl_reducedAt.cnt k (n : Int) aA a1) v).length ≤ 191102976 := fun v hv => Nat.le_trans (Cf.boxL_len (b := 24) fun u hu => hcb u (by omega)) (Nat.pow_le_pow_right (by omega) (show v ≤ 6 by omega))); (have hrow : ∀ v x, x ∈ Cf.boxL (impl_reducedAt.cnt k (n : Int) aA a1) v → x.length = v := fun v x hx => (Cf.boxL_row hx).1); have HCB := zK_ hcb; have HLN := zK_ hln; have HROW := zK_ hrow; (have hmf : ∀ (fn : Fn) (first cap : Array Value) (w : World), (Instr.makeFunc fn first cap).run Try.prog w = .ok (.func fn first cap) w := fun _ _ _ _ => rfl); have hnb : (n : Int) ≤ 6 := hn6; clear hn0 hn6 hv hbn hcb hln hrow; go_enter Try.func49, Try.ntmps49; (go_wp2_with (first | ((with_reducible refine gate_dst (N := 2) rfl ?_); refine box_event ?hg (N := 2) ?hd (cs := #[.int .i64 (n : Int), .slice aH aA.length aG]) (t := 25) ?hr ?_; (case hd => rfl); (case hg => rfl); (case hr => exact zz9); intro bg hg w1 hbox hb; have BG1 := zK_ hbox; have HGG := zK_ hg; have HB1 := zK_ hb; clear hg hbox hb) | ((with_reducible refine gate_dst (N := 3) rfl ?_); refine box_event ?hg (N := 3) ?hd (cs := #[.int .i64 a1]) (t := 3) ?hr ?_; (case hd => rfl); (case hg => rfl); (case hr => exact zz9); intro bq hg w2 hbox hb; have BQ2 := zK_ hbox; have HQG := zK_ hg; have BG2 := zK_ (blk_below BG1.out hb); have HB2 := zK_ (below_step HB1.out hb); clear hg hbox hb) | ((with_reducible refine gate_dst (N := 12) rfl ?_); refine Kd.S_lits (w0 := w2) (Kd.slice 3 (Kd.int .i64)) w2.heap.size 26 ?hg (N := 12) ?hd (xs := ([[]] : List (List Int))) (inner := [.slice none 0 0]) (ok := fun _ => True) (fun j k => j = 0) ?hr rfl ?hp (fun i j k hi hj => hi.trans hj.symm) (fun _ _ _ => trivial) trivial (Below.refl _ _) (Nat.le_refl _) (by simp) ?_; (case hd => rfl); (case hg => rfl); (case hr => exact zz9); (case hp => exact fun j x hx => match j, hx with | 0, rfl => Kd.M_row (Kd.R_nil _ _ _ _ _) | _ + 1, h_ => absurd h_ (by simp)); intro v12 w3 ho hb hg_ hnew_; have HS3 := zK_ ho; have HB3 := zK_ hb; clear ho hb hg_ hnew_))); have HBOX := zK_ (show bg < w2.heap.size ∧ bq < w2.heap.size from ⟨blk_lt BG2.out, blk_lt BQ2.out⟩); (go_loopw [5, 6] (fun v5 v6 wr => ∃ v : Nat, v6 = .int .i64 (v : Int) ∧ Aside0 (v ≤ n) ∧ Aside0 (Below w2.heap.size w2 wr) ∧ Aside0 (Kd.S (Kd.slice 3 (Kd.int .i64)) 26 wr w2.heap.size (fun _ => True) v5 (Cf.boxL (impl_reducedAt.cnt k (n : Int) aA a1) v))) (fun _ v _ => n - (intOf v).toNat)); case atStart => exact ⟨0, rfl, ⟨Nat.zero_le _⟩, HB3, HS3⟩
 case round =>
  clear HS3 HB3; obtain ⟨v, rfl, HVN, HBr, HSr⟩ := hrel; have hz0 : wr.cell? ⟨bg, 0, none⟩ = some (.int .i64 (n : Int)) := (blk_cell (blk_below BG2.out HBr.out) 0).trans rfl; have hz1 : wr.cell? ⟨bg, 1, none⟩ = some (.slice aH aA.length aG) := (blk_cell (blk_below BG2.out HBr.out) 1).trans rfl; (have hvb : (v : Int) ≤ 6 := by have := HVN.out; omega); by_cases hvn : v < n; rotate_left
  ·have c0_ : decide ((v : Int) < (n : Int)) = false := decide_eq_false (by omega); have c1_ : decide (v < n) = false := decide_eq_false hvn; (have hv : v = n := by have := HVN.out; omega); subst hv; clear hvn; obtain ⟨g, cap, eg, _⟩ := Kd.S_form HSr.out HPOS.out; subst eg; obtain ⟨f, cur, hbg, _, _, hncap, hcm, hcs, hc, hH⟩ := Cf.S_heads HSr.out; have hdel := impl_reducedAt.del k (v : Int) a1 aA aH aG bg bq g cap _ f cur _ w2 wr (Kd.C_below HE.out HB2.out) HC.out ⟨HBr.out, blk_below BG2.out HBr.out, blk_below BQ2.out HBr.out, hc, hH⟩ (Nat.le_trans (HLN.out v (Nat.le_refl _)) (by omega)) hncap HBN.out hcs hcm hbg (fun k_ h => h.2) ⟨by have := HBOX.out; omega, by have := HBOX.out; omega⟩; have HDEL := zK_ hdel; clear hdel hH hc hcs hcm hncap hbg; (go_wp2_with fail); refine HDEL.out.mono ?_; rintro e w9 ⟨v9, rfl, hS, hb⟩; obtain ⟨A9, c9, e9⟩ := Kd.S_slice hS; subst e9; have HS9 := zK_ hS; have HB9 := zK_ hb; clear hS hb hz0 hz1; go_wp2; go_ret; exact ⟨_, rfl, Kd.S_mono (Kd.S_lower HS9.out HB2.out.size) (fun _ _ => trivial), below_step HB2.out HB9.out⟩
  have c0_ : decide ((v : Int) < (n : Int)) = true := decide_eq_true (by omega); have c1_ : decide (v < n) = true := decide_eq_true hvn; obtain ⟨L, hL⟩ : ∃ L, Cf.boxL (impl_reducedAt.cnt k (n : Int) aA a1) v = L := ⟨_, rfl⟩; obtain ⟨A5, c5, e5⟩ := Kd.S_slice HSr.out; subst e5; have hS := HSr.out; rw [hL] at hS; have HLn := zK_ (show L.length ≤ 191102976 from by rw [← hL]; exact HLN.out v (by omega)); have HLR := zK_ (show ∀ x ∈ L, x.length = v from fun x hx => HROW.out v x (by rw [hL]; exact hx)); have HS := zK_ hS; have HLL := zK_ hL; rw [hL]; clear hS HSr; obtain ⟨hm0, hm1, hm2⟩ := HV.out v hvn; obtain ⟨m, hm⟩ := Option.isSome_iff_exists.1 hm0; rw [hm] at hm1 hm2; simp only [Option.getD_some] at hm1 hm2; have HM := zK_ hm; (have hcn : impl_reducedAt.cnt k (n : Int) aA a1 v = if (v : Int) = a1 then 1 else m.toNat := by unfold impl_reducedAt.cnt; rw [hm]; rfl); obtain ⟨m1, em⟩ : ∃ x : Int, wrap64 (m - 1) = x := ⟨_, rfl⟩; have emw : IntKind.i64.wrap (m - 1) = m1 := (i64_w _).trans em; have HM1 := zK_ (show m1 = m - 1 ∧ 0 ≤ m ∧ m ≤ 24 from ⟨by rw [← em]; unfold wrap64; omega, hm1, hm2⟩); have HVLT := zK_ hvn; clear hm hm0 hm1 hm2 hL hvn; (go_wp2_with fail); refine (impl_Valence.calls k (n : Int) _ _ aA (v : Int) m _ (Kd.C_below (Kd.C_below HE.out HB2.out) HBr.out) HC.out HM.out).mono ?_; rintro e w5 ⟨rfl, hb⟩; have HB5 := zK_ (below_step HBr.out hb); have HS5 := zK_ (Kd.S_mono (Kd.S_bound (Kd.S_below HS.out hb)) (ok' := fun k_ => k_ < w5.heap.size) fun k_ hk => hk.2.2.1); clear hb hz0 hz1 HS HBr; have hq0 : w5.cell? ⟨bq, 0, none⟩ = some (.int .i64 a1) := (blk_cell (blk_below BQ2.out HB5.out) 0).trans rfl; by_cases hvq : (v : Int) = a1
  ·have c4_ : ((v : Int) == a1) = true := beq_iff_eq.2 hvq; have hcn2 : impl_reducedAt.cnt k (n : Int) aA a1 v = impl_reducedAt.cnt k (n : Int) aA a1 v ∧ impl_reducedAt.cnt k (n : Int) aA a1 v = 1 := ⟨rfl, by rw [hcn, if_pos hvq]⟩; have HCN := zK_ (show impl_reducedAt.cnt k (n : Int) aA a1 v = 1 ∧ (1 : Nat) ≤ 24 from ⟨hcn2.2, by omega⟩); clear hcn hcn2 hvq; (try go_wp2); (go_loopw [8, 28] (fun v8 v28 wr => ∃ i : Nat, v28 = .int .i64 (i : Int) ∧ Aside0 (i ≤ L.length ∧ w5.heap.size ≤ wr.heap.size) ∧ Aside0 (Below w2.heap.size w2 wr) ∧ Aside0 (Kd.S (Kd.slice 3 (Kd.int .i64)) 26 wr w2.heap.size (fun k_ => k_ < w5.heap.size) (.slice A5 L.length c5) L) ∧ Aside0 (Kd.S (Kd.slice 3 (Kd.int .i64)) 26 wr w2.heap.size (fun k_ => w5.heap.size ≤ k_) v8 (Cf.outB 1 L i))) (fun _ v _ => L.length - (intOf v).toNat)); case atStart => exact ⟨0, rfl, ⟨Nat.zero_le _, Nat.le_refl _⟩, HB5, HS5, ⟨Kd.S_nil _ _ _ _ _⟩⟩
   case round =>
    clear HS5 hq0; obtain ⟨i, rfl, HI, HBr, HLr, HSn⟩ := hrel; by_cases hlt : i < L.length; rotate_left
    ·have c2_ : decide ((i : Int) < (L.length : Int)) = false := decide_eq_false (by omega); have c3_ : decide (i < L.length) = false := decide_eq_false hlt; (have hi : i = L.length := by have := HI.out; omega); subst hi; clear hlt; go_wp2; go_roundw
     case rel =>
      refine ⟨v + 1, by go_num, ⟨HVLT.out⟩, HBr, ⟨?_⟩⟩; have h1 := Cf.outB_all (impl_reducedAt.cnt k (n : Int) aA a1) v; rw [HLL.out, HCN.out.1] at h1; rw [← h1]; exact Kd.S_mono HSn.out fun _ _ => trivial
     case measure =>
      have := HVLT.out; (simp [intOf]); omega
    have c2_ : decide ((i : Int) < (L.length : Int)) = true := decide_eq_true (by omega); have c3_ : decide (i < L.length) = true := decide_eq_true hlt; obtain ⟨x, hxi⟩ : ∃ x, L[i]? = some x := ⟨_, List.getElem?_eq_getElem hlt⟩; (have hx : rd_L3 L (i : Int) = x := by unfold rd_L3; rw [Int.toNat_natCast, List.getD_eq_getElem?_getD, hxi]; rfl); (have p1 : (0 : Int) ≤ (i : Int) := by omega); (have p2 : (i : Int) < (L.length : Int) := by omega); obtain ⟨gL, _, _, eg, _, _, _⟩ := at_L3 (Kd.S_reads' HLr.out).2.2 (i : Int) p1 p2; subst eg; obtain ⟨cc, _, hM, hcell⟩ := Kd.S_get HLr.out ([] : List Int) (i : Int) p1 p2; obtain ⟨vx, hvx, hRx⟩ := hM; subst hvx; replace hcell := hcell 0 vx rfl; rw [show (L.getD ((i : Int)).toNat []) = x from hx] at hRx; (replace hRx := Kd.R_mono hRx (ok' := fun k_ => k_ < w5.heap.size) fun k_ hk => hk.1); obtain ⟨Ai, ci, ei⟩ := Kd.R_slice hRx; subst ei; rw [Int.toNat_natCast, show i * (Kd.slice 3 (Kd.int .i64)).sz + 0 = i from Nat.mul_one i] at hcell; have HRi := zK_ hRx; clear hRx; (have hib : (i : Int) ≤ 191102976 := by have := HLn.out; omega); have HLT := zK_ hlt; have HXI := zK_ hxi; have HXL := zK_ (show x.length = v from HLR.out x (List.mem_of_getElem? hxi)); (have hxl : (x.length : Int) ≤ 6 := by have := HXL.out; have := HVLT.out; have := HN.out; omega); have CP := zK_ (show impl_copyInts.f x = some x from by unfold impl_copyInts.f; rw [if_pos (by simp only [List.length_nil]; omega)]; rfl); clear hxi hlt hx; (try go_wp2); (go_loopw [8, 11] (fun v8 v11 wi => ∃ j : Nat, v11 = .int .i64 (j : Int) ∧ Aside0 (j ≤ 1 ∧ w5.heap.size ≤ wi.heap.size) ∧ Aside0 (Below w2.heap.size w2 wi) ∧ Aside0 (Kd.S (Kd.slice 3 (Kd.int .i64)) 26 wi w2.heap.size (fun k_ => k_ < w5.heap.size) (.slice (some gL) L.length c5) L) ∧ Aside0 (Kd.S (Kd.slice 3 (Kd.int .i64)) 26 wi w2.heap.size (fun k_ => w5.heap.size ≤ k_) v8 (Cf.outB 1 L i ++ Cf.extB j x)) ∧ Aside0 (Kd.R (Kd.int .i64) 3 wi w2.heap.size (fun k_ => k_ < w5.heap.size) (.slice Ai x.length ci) x)) (fun _ v _ => 1 - (intOf v).toNat)); case atStart => exact ⟨0, rfl, ⟨Nat.zero_le _, HI.out.2⟩, HBr, HLr, ⟨by rw [Cf.extB_zero, List.append_nil]; exact HSn.out⟩, HRi⟩
    case round =>
     obtain ⟨j, rfl, HJ, HBi, HLi, HSi, HRj⟩ := hrel; (have hjb : (j : Int) ≤ 24 := by have := HJ.out; have := HCN.out; omega); by_cases hj : j < 1
     ·(obtain rfl : j = 0 := by omega); have HJN := zK_ hj; clear hj; have HLA := zK_ (show (Cf.outB 1 L i ++ Cf.extB 0 x).length ≤ 5000000000 from by rw [List.length_append, Cf.extB_len]; have a1_ := Cf.outB_len 1 L i; have a2_ := HCN.out; have a3_ := HJ.out; have a4_ := Nat.mul_le_mul HLn.out (show 1 ≤ 24 by omega); omega); (go_wp2_with (first | ((with_reducible refine gate_callee (f := 86) rfl ?_); refine goesL_ (some 39) rfl rfl Try.func86 (by kernel_rfl) rfl #[.slice Ai x.length ci] rfl zz28 ?_; refine (impl_copyInts.calls _ _ x x _ (Kd.R_reads' HRj.out).2.2 (Kd.R_reads' HRj.out).2.1 CP.out).mono ?_; rintro e wA ⟨vA, rfl, hoA, hbA⟩; refine ⟨_, rfl, ?_⟩; have HOA := zK_ hoA; have HBA := zK_ hbA; clear hoA hbA) | ((with_reducible refine gate_builtin (b := .append) (xs := #[.tmp 39, .tmp 41]) rfl ?_); at_builtin; refine Kd.R_append (Kd.int .i64) (w0 := wr) wr.heap.size rfl (.tmp 39) (.tmp 41) 26 3 (.int .i64 0) 8 rfl Try.underlying26 info3 rfl (by decide) (by omega) vA x (0 : Int) [.int .i64 (0 : Int)] (fun _ => True) (fun _ => False) rfl rfl rfl (fun _ hk => hk.elim) (fun _ _ => trivial) HOA.out HBA.out (below_size HBA.out) (by have := hxl; omega) ?_; intro vC wC ho hb hg hat; obtain ⟨Ad, cd, ed⟩ := Kd.R_slice ho; subst ed; rw [show (x ++ [(0 : Int)]).length = x.length + 1 from List.length_append] at ho; have HD := zK_ (Kd.R_mono (Kd.R_bound ho) (ok' := fun k_ => wr.heap.size ≤ k_) fun k_ hk => hk.2.1); have HBC := zK_ hb; clear ho hb hg hat) | ((with_reducible refine gate_builtin (b := .append) (xs := #[.tmp 37, .tmp 43]) rfl ?_); at_builtin; refine Kd.S_append (Kd.slice 3 (Kd.int .i64)) (w0 := w2) w2.heap.size rfl (.tmp 37) (.tmp 43) 34 26 (.slice none 0 0) 24 rfl Try.underlying34 info26 rfl (by decide) (by omega) u8 (Cf.outB 1 L i ++ Cf.extB 0 x) (x ++ [(0 : Int)]) [.slice Ad (x.length + 1) cd] (fun k_ => w5.heap.size ≤ k_) (fun k_ => wr.heap.size ≤ k_) rfl rfl (Kd.M_row (Kd.R_lower HD.out (below_size HBi.out))) (fun k_ hk => ⟨by have := HJ.out; omega, fun e => by have := Kd.S_lt HSi.out k_ e.symm; omega⟩) (fun k_ hk => by have := HJ.out; have := HBC.out.size; omega) (Kd.S_mono (Kd.S_below (Kd.S_bound HSi.out) HBC.out) fun k_ hk => ⟨hk.1, fun h => by have := hk.2.2.1; omega⟩) (below_step HBi.out HBC.out) (below_size (below_step HBi.out HBC.out)) (by have := HLA.out; omega) ?_; intro vE wE ho hb hg hat; have HOE := zK_ ho; have HBE := zK_ hb; have HLE := zK_ (Kd.S_grown (Kd.S_below (Kd.S_bound HLi.out) HBC.out) hg fun k_ hk e => by have := HSi.out.choose_spec.1 k_ e.symm; have := hk.1; omega); have HZE := zK_ hg.size; have HRE := zK_ (Kd.R_step (Kd.R_below HRj.out HBC.out) fun k_ hk hlt => hg.block k_ hlt fun e => by have := HSi.out.choose_spec.1 k_ e.symm; omega); clear ho hb hg hat))); go_roundw
      case rel =>
       refine ⟨0 + 1, by go_num, ⟨by have := HJN.out; omega, by have := HBC.out.size; have := HZE.out; have := HJ.out; omega⟩, HBE, ⟨Kd.S_mono HLE.out fun k_ hk => hk.1⟩, ⟨?_⟩, HRE⟩; rw [Cf.extB_succ, ← List.append_assoc]; exact HOE.out
      case measure =>
       have := HJN.out; first | (simp [intOf]; done) | (simp [intOf]; omega)
     have hj2 := HJ.out; (have hjn : j = 1 := by have := HJ.out; omega); subst hjn; clear hj; go_wp2; go_roundw
     case rel =>
      refine ⟨i + 1, by go_num, ⟨by have := HLT.out; omega, HJ.out.2⟩, HBi, HLi, ⟨?_⟩⟩; rw [Cf.outB_succ _ HXI.out]; exact HSi.out
     case measure =>
      have := HLT.out; (simp [intOf]); omega
  have c4_ : ((v : Int) == a1) = false := beq_eq_false_iff_ne.2 hvq; have hcn2 : impl_reducedAt.cnt k (n : Int) aA a1 v = impl_reducedAt.cnt k (n : Int) aA a1 v ∧ ((impl_reducedAt.cnt k (n : Int) aA a1 v : Nat) : Int) = m1 + 1 ∧ m1 ≤ 23 := ⟨rfl, by rw [hcn, if_neg hvq]; have := HM1.out; omega, by have := HM1.out; omega⟩; have HCN0 := zK_ hcn2; obtain ⟨cn, hcn3⟩ : ∃ cn, impl_reducedAt.cnt k (n : Int) aA a1 v = cn := ⟨_, rfl⟩; have HCN := zK_ (show impl_reducedAt.cnt k (n : Int) aA a1 v = cn ∧ cn ≤ 24 ∧ (cn : Int) = m1 + 1 from ⟨hcn3, by have := HCN0.out.2; omega, by have := HCN0.out.2; omega⟩); clear hcn hcn2 hvq hcn3 HCN0; (try go_wp2); (go_loopw [8, 28] (fun v8 v28 wr => ∃ i : Nat, v28 = .int .i64 (i : Int) ∧ Aside0 (i ≤ L.length ∧ w5.heap.size ≤ wr.heap.size) ∧ Aside0 (Below w2.heap.size w2 wr) ∧ Aside0 (Kd.S (Kd.slice 3 (Kd.int .i64)) 26 wr w2.heap.size (fun k_ => k_ < w5.heap.size) (.slice A5 L.length c5) L) ∧ Aside0 (Kd.S (Kd.slice 3 (Kd.int .i64)) 26 wr w2.heap.size (fun k_ => w5.heap.size ≤ k_) v8 (Cf.outB cn L i))) (fun _ v _ => L.length - (intOf v).toNat)); case atStart => exact ⟨0, rfl, ⟨Nat.zero_le _, Nat.le_refl _⟩, HB5, HS5, ⟨Kd.S_nil _ _ _ _ _⟩⟩
  case round =>
   clear HS5 hq0; obtain ⟨i, rfl, HI, HBr, HLr, HSn⟩ := hrel; by_cases hlt : i < L.length; rotate_left
   ·have c2_ : decide ((i : Int) < (L.length : Int)) = false := decide_eq_false (by omega); have c3_ : decide (i < L.length) = false := decide_eq_false hlt; (have hi : i = L.length := by have := HI.out; omega); subst hi; clear hlt; go_wp2; go_roundw
    case rel =>
     refine ⟨v + 1, by go_num, ⟨HVLT.out⟩, HBr, ⟨?_⟩⟩; have h1 := Cf.outB_all (impl_reducedAt.cnt k (n : Int) aA a1) v; rw [HLL.out, HCN.out.1] at h1; rw [← h1]; exact Kd.S_mono HSn.out fun _ _ => trivial
    case measure =>
     have := HVLT.out; (simp [intOf]); omega
   have c2_ : decide ((i : Int) < (L.length : Int)) = true := decide_eq_true (by omega); have c3_ : decide (i < L.length) = true := decide_eq_true hlt; obtain ⟨x, hxi⟩ : ∃ x, L[i]? = some x := ⟨_, List.getElem?_eq_getElem hlt⟩; (have hx : rd_L3 L (i : Int) = x := by unfold rd_L3; rw [Int.toNat_natCast, List.getD_eq_getElem?_getD, hxi]; rfl); (have p1 : (0 : Int) ≤ (i : Int) := by omega); (have p2 : (i : Int) < (L.length : Int) := by omega); obtain ⟨gL, _, _, eg, _, _, _⟩ := at_L3 (Kd.S_reads' HLr.out).2.2 (i : Int) p1 p2; subst eg; obtain ⟨cc, _, hM, hcell⟩ := Kd.S_get HLr.out ([] : List Int) (i : Int) p1 p2; obtain ⟨vx, hvx, hRx⟩ := hM; subst hvx; replace hcell := hcell 0 vx rfl; rw [show (L.getD ((i : Int)).toNat []) = x from hx] at hRx; (replace hRx := Kd.R_mono hRx (ok' := fun k_ => k_ < w5.heap.size) fun k_ hk => hk.1); obtain ⟨Ai, ci, ei⟩ := Kd.R_slice hRx; subst ei; rw [Int.toNat_natCast, show i * (Kd.slice 3 (Kd.int .i64)).sz + 0 = i from Nat.mul_one i] at hcell; have HRi := zK_ hRx; clear hRx; (have hib : (i : Int) ≤ 191102976 := by have := HLn.out; omega); have HLT := zK_ hlt; have HXI := zK_ hxi; have HXL := zK_ (show x.length = v from HLR.out x (List.mem_of_getElem? hxi)); (have hxl : (x.length : Int) ≤ 6 := by have := HXL.out; have := HVLT.out; have := HN.out; omega); have CP := zK_ (show impl_copyInts.f x = some x from by unfold impl_copyInts.f; rw [if_pos (by simp only [List.length_nil]; omega)]; rfl); clear hxi hlt hx; (try go_wp2); (go_loopw [8, 11] (fun v8 v11 wi => ∃ j : Nat, v11 = .int .i64 (j : Int) ∧ Aside0 (j ≤ cn ∧ w5.heap.size ≤ wi.heap.size) ∧ Aside0 (Below w2.heap.size w2 wi) ∧ Aside0 (Kd.S (Kd.slice 3 (Kd.int .i64)) 26 wi w2.heap.size (fun k_ => k_ < w5.heap.size) (.slice (some gL) L.length c5) L) ∧ Aside0 (Kd.S (Kd.slice 3 (Kd.int .i64)) 26 wi w2.heap.size (fun k_ => w5.heap.size ≤ k_) v8 (Cf.outB cn L i ++ Cf.extB j x)) ∧ Aside0 (Kd.R (Kd.int .i64) 3 wi w2.heap.size (fun k_ => k_ < w5.heap.size) (.slice Ai x.length ci) x)) (fun _ v _ => cn - (intOf v).toNat)); case atStart => exact ⟨0, rfl, ⟨Nat.zero_le _, HI.out.2⟩, HBr, HLr, ⟨by rw [Cf.extB_zero, List.append_nil]; exact HSn.out⟩, HRi⟩
   case round =>
    obtain ⟨j, rfl, HJ, HBi, HLi, HSi, HRj⟩ := hrel; (have hjb : (j : Int) ≤ 24 := by have := HJ.out; have := HCN.out; omega); by_cases hj : j < cn
    ·have d0 : decide ((j : Int) ≤ m1) = true := decide_eq_true (by have := HCN.out; omega); have HJN := zK_ hj; clear hj; have HLA := zK_ (show (Cf.outB cn L i ++ Cf.extB j x).length ≤ 5000000000 from by rw [List.length_append, Cf.extB_len]; have a1_ := Cf.outB_len cn L i; have a2_ := HCN.out; have a3_ := HJ.out; have a4_ := Nat.mul_le_mul HLn.out (show cn ≤ 24 by omega); omega); (go_wp2_with (first | ((with_reducible refine gate_callee (f := 86) rfl ?_); refine goesL_ (some 39) rfl rfl Try.func86 (by kernel_rfl) rfl #[.slice Ai x.length ci] rfl zz28 ?_; refine (impl_copyInts.calls _ _ x x _ (Kd.R_reads' HRj.out).2.2 (Kd.R_reads' HRj.out).2.1 CP.out).mono ?_; rintro e wA ⟨vA, rfl, hoA, hbA⟩; refine ⟨_, rfl, ?_⟩; have HOA := zK_ hoA; have HBA := zK_ hbA; clear hoA hbA) | ((with_reducible refine gate_builtin (b := .append) (xs := #[.tmp 39, .tmp 41]) rfl ?_); at_builtin; refine Kd.R_append (Kd.int .i64) (w0 := wr) wr.heap.size rfl (.tmp 39) (.tmp 41) 26 3 (.int .i64 0) 8 rfl Try.underlying26 info3 rfl (by decide) (by omega) vA x (j : Int) [.int .i64 (j : Int)] (fun _ => True) (fun _ => False) rfl rfl rfl (fun _ hk => hk.elim) (fun _ _ => trivial) HOA.out HBA.out (below_size HBA.out) (by have := hxl; omega) ?_; intro vC wC ho hb hg hat; obtain ⟨Ad, cd, ed⟩ := Kd.R_slice ho; subst ed; rw [show (x ++ [(j : Int)]).length = x.length + 1 from List.length_append] at ho; have HD := zK_ (Kd.R_mono (Kd.R_bound ho) (ok' := fun k_ => wr.heap.size ≤ k_) fun k_ hk => hk.2.1); have HBC := zK_ hb; clear ho hb hg hat) | ((with_reducible refine gate_builtin (b := .append) (xs := #[.tmp 37, .tmp 43]) rfl ?_); at_builtin; refine Kd.S_append (Kd.slice 3 (Kd.int .i64)) (w0 := w2) w2.heap.size rfl (.tmp 37) (.tmp 43) 34 26 (.slice none 0 0) 24 rfl Try.underlying34 info26 rfl (by decide) (by omega) u8 (Cf.outB cn L i ++ Cf.extB j x) (x ++ [(j : Int)]) [.slice Ad (x.length + 1) cd] (fun k_ => w5.heap.size ≤ k_) (fun k_ => wr.heap.size ≤ k_) rfl rfl (Kd.M_row (Kd.R_lower HD.out (below_size HBi.out))) (fun k_ hk => ⟨by have := HJ.out; omega, fun e => by have := Kd.S_lt HSi.out k_ e.symm; omega⟩) (fun k_ hk => by have := HJ.out; have := HBC.out.size; omega) (Kd.S_mono (Kd.S_below (Kd.S_bound HSi.out) HBC.out) fun k_ hk => ⟨hk.1, fun h => by have := hk.2.2.1; omega⟩) (below_step HBi.out HBC.out) (below_size (below_step HBi.out HBC.out)) (by have := HLA.out; omega) ?_; intro vE wE ho hb hg hat; have HOE := zK_ ho; have HBE := zK_ hb; have HLE := zK_ (Kd.S_grown (Kd.S_below (Kd.S_bound HLi.out) HBC.out) hg fun k_ hk e => by have := HSi.out.choose_spec.1 k_ e.symm; have := hk.1; omega); have HZE := zK_ hg.size; have HRE := zK_ (Kd.R_step (Kd.R_below HRj.out HBC.out) fun k_ hk hlt => hg.block k_ hlt fun e => by have := HSi.out.choose_spec.1 k_ e.symm; omega); clear ho hb hg hat))); go_roundw
     case rel =>
      refine ⟨j + 1, by go_num, ⟨by have := HJN.out; omega, by have := HBC.out.size; have := HZE.out; have := HJ.out; omega⟩, HBE, ⟨Kd.S_mono HLE.out fun k_ hk => hk.1⟩, ⟨?_⟩, HRE⟩; rw [Cf.extB_succ, ← List.append_assoc]; exact HOE.out
     case measure =>
      have := HJN.out; first | (simp [intOf]; done) | (simp [intOf]; omega)
    have d0 : decide ((j : Int) ≤ m1) = false := decide_eq_false (by have := HCN.out; omega); (have hjn : j = cn := by have := HJ.out; omega); subst hjn; clear hj; go_wp2; go_roundw
    case rel =>
     refine ⟨i + 1, by go_num, ⟨by have := HLT.out; omega, HJ.out.2⟩, HBi, HLi, ⟨?_⟩⟩; rw [Cf.outB_succ _ HXI.out]; exact HSi.out
    case measure =>
     have := HLT.out; (simp [intOf]); omega
def slices_Compare_int_int.l0 : Nat → List Int → List Int → List Int → Int → Int → Option (Int)
 | 0, _, _, _, _, _ => none
 | k + 1, x0, x1, x9, fI, eR => if eR < fI then (if 0 ≤ eR then (if eR < (x9.length : Int) then (if eR ≥ (x1.length : Int) then (some 1) else (if eR < (x1.length : Int) then ((cmp_Compare_int.f (rd x9 eR) (rd x1 eR)).bind fun bN => (if bN = 0 then (slices_Compare_int_int.l0 k x0 x1 x9 fI (wrap64 (eR + 1))) else (some bN))) else (none))) else (none)) else (none)) else (if (x0.length : Int) < (x1.length : Int) then (some (-1)) else (some 0))
def slices_Compare_int_int.f (k : Nat) (l0 : List Int) (l1 : List Int) : Option (Int) := slices_Compare_int_int.l0 k l0 l1 l0 (l0.length : Int) 0
theorem slices_Compare_int_int.mono_l : ∀ k, (∀ y0 y1 y2 y3 y4, LeO (slices_Compare_int_int.l0 k y0 y1 y2 y3 y4) (slices_Compare_int_int.l0 (k + 1) y0 y1 y2 y3 y4))
 | 0 => fun _ _ _ _ _ r h => by simp [slices_Compare_int_int.l0] at h
 | k + 1 => by
  have ih0 := slices_Compare_int_int.mono_l k
  ·intro y0 y1 y2 y3 y4
   unfold slices_Compare_int_int.l0
   exact zm0
theorem slices_Compare_int_int.mono : ∀ a0 a1 k, LeO (slices_Compare_int_int.f k a0 a1) (slices_Compare_int_int.f (k + 1) a0 a1) := by
 intro a0 a1 k; have ih0 := slices_Compare_int_int.mono_l k; unfold slices_Compare_int_int.f; exact zm0
theorem slices_Compare_int_int.calls (k : Nat) (A0 : Option Addr) (c0 : Nat) (l0 : List Int) (A1 : Option Addr) (c1 : Nat) (l1 : List Int) (r : Int) (w : World) (hr0 : Kd.C (Kd.int .i64) w A0 l0.length l0) (hc0 : l0.length ≤ c0) (hr1 : Kd.C (Kd.int .i64) w A1 l1.length l1) (hc1 : l1.length ≤ c1) (h : slices_Compare_int_int.f k l0 l1 = some r) :
  Calls Try.prog 66 #[.slice A0 l0.length c0, .slice A1 l1.length c1] w fun e w' => e = .returned (.int .i64 r) ∧ Drawn0 w w' := by
 have HR0 := zK_ hr0; have HC0 := zK_ hc0; clear hr0 hc0; have HR1 := zK_ hr1; have HC1 := zK_ hc1; clear hr1 hc1; have H : (slices_Compare_int_int.l0 k l0 l1 l0 (l0.length : Int) 0) = some r := h; clear h; have H' := zK_ H; clear H; go_enter Try.func66, Try.ntmps66; go_wp2; (go_loopg [11] k (fun kq v11 w' => ∃ (aI : Int), v11 = .int .i64 aI ∧ Aside0 (slices_Compare_int_int.l0 kq l0 l1 l0 (l0.length : Int) aI = some r) ∧ Aside0 (kq ≤ k) ∧ Drawn0 w w')); case atStart => exact ⟨(0), zz5, H', ⟨Nat.le_refl _⟩, by repeat (first | exact Drawn0.refl _ | apply Drawn0.step)⟩
 case round =>
  clear H'; (try clear c1); (try clear p2); obtain ⟨aI, rfl, HA, HK1, ⟨m1, rfl⟩⟩ := hrel
  cases gk with
  | zero => exact absurd HA.out (by simp [slices_Compare_int_int.l0])
  | succ k1 =>
   have H := HA.out; clear HA; simp only [slices_Compare_int_int.l0] at H; by_cases c3 : aI < (l0.length : Int); rotate_left
   ·rw [if_neg c3] at H; have dD := decide_eq_false c3; clear c3; by_cases c10 : (l0.length : Int) < (l1.length : Int)
    ·rw [if_pos c10] at H; have gS := decide_eq_true c10; have tM : decide (l0.length < l1.length) = true := decide_eq_true (Int.ofNat_lt.mp c10); clear c10; obtain rfl := Option.some.inj H; go_wp2; go_ret; exact ⟨zz5, by repeat (first | exact Drawn0.refl _ | apply Drawn0.step)⟩
    rw [if_neg c10] at H; have gS := decide_eq_false c10; have tM : decide (l0.length < l1.length) = false := decide_eq_false (fun h => c10 (Int.ofNat_lt.mpr h)); clear c10; obtain rfl := Option.some.inj H; go_wp2; go_ret; exact ⟨zz5, by repeat (first | exact Drawn0.refl _ | apply Drawn0.step)⟩
   rw [if_pos c3] at H; have dD := decide_eq_true c3; clear c3; by_cases c4 : 0 ≤ aI; rotate_left
   ·rw [if_neg c4] at H; exact absurd H (by simp)
   rw [if_pos c4] at H; have dB := decide_eq_true c4; clear c4; by_cases c5 : aI < (l0.length : Int); rotate_left
   ·rw [if_neg c5] at H; exact absurd H (by simp)
   rw [if_pos c5] at H; have dH := decide_eq_true c5; clear c5; by_cases c6 : aI ≥ (l1.length : Int)
   ·rw [if_pos c6] at H; have dY : decide ((l1.length : Int) ≤ aI) = true := decide_eq_true c6; clear c6; obtain rfl := Option.some.inj H; have p101 : 0 ≤ (aI : Int) := of_decide_eq_true zz3; have q101 : aI < (l0.length : Int) := of_decide_eq_true zz3; obtain ⟨b8, e101, a6⟩ := Kd.at_int HR0.out aI p101 q101; cases e101; replace p101 := eq_true p101; replace q101 := eq_true q101; go_wp2; go_ret; exact ⟨zz5, by repeat (first | exact Drawn0.refl _ | apply Drawn0.step)⟩
   rw [if_neg c6] at H; have dY : decide ((l1.length : Int) ≤ aI) = false := decide_eq_false c6; clear c6; by_cases c7 : aI < (l1.length : Int); rotate_left
   ·rw [if_neg c7] at H; exact absurd H (by simp)
   rw [if_pos c7] at H; have dK := decide_eq_true c7; clear c7; obtain ⟨bN, A80, H⟩ := zO_ H; (try dsimp only at H); have A8 := zK_ A80; clear A80; by_cases c9 : bN = 0; rotate_left
   ·rw [if_neg c9] at H; have fN : (bN == 0) = false := beq_eq_false_iff_ne.mpr c9; have pH : (bN != 0) = true := bne_iff_ne.mpr c9; obtain rfl := Option.some.inj H; have p101 : 0 ≤ (aI : Int) := of_decide_eq_true zz3; have q101 : aI < (l0.length : Int) := of_decide_eq_true zz3; obtain ⟨b8, e101, a6⟩ := Kd.at_int HR0.out aI p101 q101; cases e101; replace p101 := eq_true p101; replace q101 := eq_true q101; have p102 : 0 ≤ (aI : Int) := of_decide_eq_true zz3; have q102 : aI < (l1.length : Int) := of_decide_eq_true zz3; obtain ⟨cS, e102, bA⟩ := Kd.at_int HR1.out aI p102 q102; cases e102; replace p102 := eq_true p102; replace q102 := eq_true q102; (go_wp2_with (first | ((with_reducible refine gate_callee (f := 100) rfl ?_); refine goesL_ (some 26) rfl rfl Try.func100 (by kernel_rfl) rfl #[.int .i64 (rd l0 aI), .int .i64 (rd l1 aI)] rfl zz4 ?_; (with_reducible refine (cmp_Compare_int.calls (rd l0 aI) (rd l1 aI) bN _ A8.out).mono ?_); rintro e w' ⟨rfl, ⟨nd, rfl⟩⟩; refine ⟨_, rfl, ?_⟩))); go_ret; exact ⟨zz5, by repeat (first | exact Drawn0.refl _ | apply Drawn0.step)⟩
   rw [if_pos c9] at H; have fN : (bN == 0) = true := beq_iff_eq.mpr c9; have pH : (bN != 0) = false := bne_eq_false_iff_eq.mpr c9; clear c9; have H' := zK_ H; clear H; have p101 : 0 ≤ (aI : Int) := of_decide_eq_true zz3; have q101 : aI < (l0.length : Int) := of_decide_eq_true zz3; obtain ⟨b8, e101, a6⟩ := Kd.at_int HR0.out aI p101 q101; cases e101; replace p101 := eq_true p101; replace q101 := eq_true q101; have p102 : 0 ≤ (aI : Int) := of_decide_eq_true zz3; have q102 : aI < (l1.length : Int) := of_decide_eq_true zz3; obtain ⟨cS, e102, bA⟩ := Kd.at_int HR1.out aI p102 q102; cases e102; replace p102 := eq_true p102; replace q102 := eq_true q102; (go_wp2_with (first | ((with_reducible refine gate_callee (f := 100) rfl ?_); refine goesL_ (some 26) rfl rfl Try.func100 (by kernel_rfl) rfl #[.int .i64 (rd l0 aI), .int .i64 (rd l1 aI)] rfl zz4 ?_; (with_reducible refine (cmp_Compare_int.calls (rd l0 aI) (rd l1 aI) bN _ A8.out).mono ?_); rintro e w' ⟨rfl, ⟨nd, rfl⟩⟩; refine ⟨_, rfl, ?_⟩))); go_roundg k1; (case measure => have := HK1.out; omega); case rel => exact ⟨(wrap64 (aI + 1)), zz5, H', ⟨zz34⟩, by repeat (first | exact Drawn0.refl _ | apply Drawn0.step)⟩
end Go.Proofs.Ytnbljcgdgblgoaa.P
end

section
namespace Go.Proofs.Ytnbljcgdgblgoaa.Cf
set_option linter.unusedVariables false
set_option linter.unusedSimpArgs false
open Go.RowKit Go.Proofs.YtnbljcgdgblgoaaW.PrintWords
def lexC : List Int → List Int → Int
 | [], [] => 0
 | [], _ :: _ => -1
 | _ :: _, [] => 1
 | x :: xs, y :: ys => if x = y then lexC xs ys else if x < y then -1 else 1
theorem lexC_self : ∀ x : List Int, lexC x x = 0
 | [] => rfl
 | x :: xs => by unfold lexC; rw [if_pos rfl]; exact lexC_self xs
theorem lexC_neg : ∀ x y : List Int, lexC y x = - lexC x y
 | [], [] => rfl
 | [], _ :: _ => rfl
 | _ :: _, [] => rfl
 | x :: xs, y :: ys => by
  unfold lexC
  by_cases e : x = y
  ·rw [if_pos e, if_pos e.symm]
   exact lexC_neg xs ys
  ·rw [if_neg e, if_neg (fun h => e h.symm)]
   by_cases h : x < y
   ·rw [if_pos h, if_neg (by omega)]
    rfl
   ·rw [if_neg h, if_pos (by omega)]
theorem lexC_zero : ∀ {x y : List Int}, lexC x y = 0 → x = y
 | [], [], _ => rfl
 | [], _ :: _, h => by simp [lexC] at h
 | _ :: _, [], h => by simp [lexC] at h
 | x :: xs, y :: ys, h => by
  unfold lexC at h
  by_cases e : x = y
  ·rw [if_pos e] at h
   rw [e, lexC_zero h]
  ·rw [if_neg e] at h
   split at h <;> omega
theorem lexC_le : ∀ {x y z : List Int}, lexC x y ≤ 0 → lexC y z ≤ 0 → lexC x z ≤ 0
 | [], _, [], _, _ => by simp [lexC]
 | [], _, _ :: _, _, _ => by simp [lexC]
 | _ :: _, [], _, h, _ => by simp [lexC] at h
 | x :: xs, y :: ys, [], _, h => by simp [lexC] at h
 | x :: xs, y :: ys, z :: zs, h1, h2 => by
  unfold lexC at h1 h2 ⊢
  by_cases e1 : x = y
  ·subst e1
   by_cases e2 : x = z
   ·rw [if_pos rfl] at h1
    rw [if_pos e2] at h2
    rw [if_pos e2]
    exact lexC_le h1 h2
   ·rw [if_neg e2] at h2
    rw [if_neg e2]
    exact h2
  ·rw [if_neg e1] at h1
   have h3 : x < y := by
    apply Classical.byContradiction
    intro c
    rw [if_neg c] at h1
    omega
   by_cases e2 : y = z
   ·subst e2
    rw [if_neg e1, if_pos h3]
    omega
   ·rw [if_neg e2] at h2
    have h4 : y < z := by
     apply Classical.byContradiction
     intro c
     rw [if_neg c] at h2
     omega
    rw [if_neg (by omega), if_pos (by omega)]
    omega
theorem lexC_lt {x y z : List Int} (h1 : lexC x y < 0) (h2 : lexC y z < 0) : lexC x z < 0 := by
 have h3 := lexC_le (Int.le_of_lt h1) (Int.le_of_lt h2)
 apply Classical.byContradiction
 intro c
 have h4 : lexC x z = 0 := by omega
 have h5 := lexC_zero h4
 subst h5
 have := lexC_neg x y
 omega
def sortL (L : List (List Int)) : List (List Int) := L.mergeSort fun x y => decide (lexC x y ≤ 0)
theorem sortL_perm (L : List (List Int)) : (sortL L).Perm L := List.mergeSort_perm L _
theorem sortL_len (L : List (List Int)) : (sortL L).length = L.length := (sortL_perm L).length_eq
theorem sortL_mem {L : List (List Int)} {x : List Int} : x ∈ sortL L ↔ x ∈ L := (sortL_perm L).mem_iff
theorem sortL_srt (L : List (List Int)) : (sortL L).Pairwise fun x y => lexC x y ≤ 0 := by
 have h := List.pairwise_mergeSort (le := fun x y : List Int => decide (lexC x y ≤ 0)) (fun a b c h1 h2 => decide_eq_true (lexC_le (of_decide_eq_true h1) (of_decide_eq_true h2))) (fun a b => by have := lexC_neg a b; simp; omega) L
 exact h.imp fun h => of_decide_eq_true h
theorem sortL_eq {L s : List (List Int)} (h1 : s.Perm L) (h2 : s.Pairwise fun x y => lexC x y ≤ 0) : s = sortL L :=
 List.Perm.eq_of_pairwise (fun a b _ _ h3 h4 => lexC_zero (by have := lexC_neg a b; omega)) h2 (sortL_srt L) (h1.trans (sortL_perm L).symm)
theorem heads_SZ {w : World} {base g cap : Nat} {ok : Nat → Prop} {f : Nat → Nat} {cur : Array Value} {Z : List (List Int × Nat)} (hb : base ≤ g) (hok : ok g) (hn : Z.length ≤ cap) (hcm : cap ≤ maxLen) (hcs : cur.size = cap) (hc : w.heap[g]? = some (.cells cur 26 (0, 0))) (hz : (Z.map (·.2)).Nodup) (hH : Heads w base ok f cur Z) :
  Kd.S (Kd.slice 3 (Kd.int .i64)) 26 w base ok (.slice (some ⟨g, 0, none⟩) Z.length cap) (Z.map (·.1)) := by
 have h2 : Heads w base ok (fun k => (Z.map (·.2)).idxOf (f k)) cur (Z.map (·.1)).zipIdx := by
  intro j x i hj
  rw [List.getElem?_zipIdx, Nat.zero_add, List.getElem?_map] at hj
  obtain ⟨y, hy, he⟩ := Option.map_eq_some_iff.1 hj
  obtain ⟨z, hz1, hz2⟩ := Option.map_eq_some_iff.1 hy
  obtain ⟨rfl, rfl⟩ := Prod.mk.inj he
  obtain ⟨x, i⟩ := z
  obtain rfl : x = y := hz2
  obtain ⟨v, hv, hR⟩ := hH j x i hz1
  refine ⟨v, hv, Kd.R_mono hR fun k hk => ⟨hk.1, ?_⟩⟩
  have hm : (Z.map (·.2))[j]? = some i := by rw [List.getElem?_map, hz1]; rfl
  obtain ⟨hjl, hje⟩ := List.getElem?_eq_some_iff.1 hm
  show (Z.map (·.2)).idxOf (f k) = j
  rw [hk.2, ← hje]
  exact hz.idxOf_getElem j hjl
 have h3 := heads_S (rows := Z.map (·.1)) hb hok (by rw [List.length_map]; exact hn) hcm hcs hc h2
 rw [List.length_map] at h3
 exact h3
end Go.Proofs.Ytnbljcgdgblgoaa.Cf
end

section
namespace Go.Proofs.Ytnbljcgdgblgoaa.P
open Go.RowKit Go.Proofs.YtnbljcgdgblgoaaW.PrintWords Go.Proofs.YtnbljcgdgblgoaaW.PrintLast Go.Proofs.YtnbljcgdgblgoaaW.PrintMore
attribute [local go_sem] max2_int min2_int max_two min_two max_three min_three max_four min_four
set_option linter.unusedVariables false
set_option linter.unusedSimpArgs false
def slices_SortFunc_int_int.ren : Go.Shelf.Ren := ⟨fun n => if n = 6 then 65 else if n = 14 then 99 else if n = 15 then 84 else if n = 20 then 125 else if n = 21 then 126 else if n = 22 then 127 else if n = 23 then 128 else if n = 24 then 129 else if n = 25 then 130 else if n = 26 then 131 else if n = 27 then 132 else if n = 28 then 118 else if n = 29 then 119 else if n = 46 then 148 else if n = 47 then 139 else if n = 48 then 140 else if n = 49 then 149 else if n = 50 then 150 else if n = 57 then 152 else n, fun n => if n = 0 then 0 else if n = 3 then 3 else if n = 4 then 4 else if n = 5 then 5 else if n = 9 then 9 else if n = 22 then 34 else if n = 24 then 26 else if n = 25 then 82 else if n = 39 then 91 else if n = 45 then 110 else if n = 46 then 111 else if n = 50 then 115 else if n = 53 then 118 else if n = 55 then 120 else if n = 66 then 132 else if n = 70 then 136 else if n = 76 then 142 else if n = 77 then 143 else n, fun n => n⟩
theorem slices_SortFunc_int_int.lay : Go.Proofs.SlLaysF.n6 Try.prog slices_SortFunc_int_int.ren where
 mixed := by kernel_rfl
 f6 := Exists.intro ("slices.SortFunc[[][]int,[]int]") (And.intro (by kernel_rfl) (by kernel_rfl))
 f14 := Exists.intro ("slices.pdqsortCmpFunc[[]int]") (And.intro (by kernel_rfl) (by kernel_rfl))
 f15 := by kernel_rfl
 f20 := Exists.intro ("slices.insertionSortCmpFunc[[]int]") (And.intro (by kernel_rfl) (by kernel_rfl))
 f21 := Exists.intro ("slices.heapSortCmpFunc[[]int]") (And.intro (by kernel_rfl) (by kernel_rfl))
 f22 := Exists.intro ("slices.breakPatternsCmpFunc[[]int]") (And.intro (by kernel_rfl) (by kernel_rfl))
 f23 := Exists.intro ("slices.choosePivotCmpFunc[[]int]") (And.intro (by kernel_rfl) (by kernel_rfl))
 f24 := Exists.intro ("slices.reverseRangeCmpFunc[[]int]") (And.intro (by kernel_rfl) (by kernel_rfl))
 f25 := Exists.intro ("slices.partialInsertionSortCmpFunc[[]int]") (And.intro (by kernel_rfl) (by kernel_rfl))
 f26 := Exists.intro ("slices.partitionEqualCmpFunc[[]int]") (And.intro (by kernel_rfl) (by kernel_rfl))
 f27 := Exists.intro ("slices.partitionCmpFunc[[]int]") (And.intro (by kernel_rfl) (by kernel_rfl))
 f28 := by kernel_rfl
 f29 := by kernel_rfl
 f46 := Exists.intro ("slices.siftDownCmpFunc[[]int]") (And.intro (by kernel_rfl) (by kernel_rfl))
 f47 := by kernel_rfl
 f48 := by kernel_rfl
 f49 := Exists.intro ("slices.medianAdjacentCmpFunc[[]int]") (And.intro (by kernel_rfl) (by kernel_rfl))
 f50 := Exists.intro ("slices.medianCmpFunc[[]int]") (And.intro (by kernel_rfl) (by kernel_rfl))
 f57 := Exists.intro ("slices.order2CmpFunc[[]int]") (And.intro (by kernel_rfl) (by kernel_rfl))
 t0 := by kernel_rfl
 a0 := fun _ => rfl
 z0 := fun _ => rfl
 v0 := fun _ => rfl
 t3 := by kernel_rfl
 a3 := fun _ => rfl
 z3 := fun _ => rfl
 v3 := fun _ => rfl
 t4 := by kernel_rfl
 a4 := fun _ => rfl
 z4 := fun _ => rfl
 v4 := fun _ => rfl
 t5 := by kernel_rfl
 a5 := fun _ => rfl
 z5 := fun _ => rfl
 v5 := fun _ => rfl
 t9 := by kernel_rfl
 a9 := fun _ => rfl
 z9 := fun _ => rfl
 v9 := fun _ => rfl
 t22 := by kernel_rfl
 a22 := fun _ => rfl
 z22 := fun _ => rfl
 v22 := fun _ => rfl
 a24 := fun _ => rfl
 z24 := fun _ => rfl
 t25 := by kernel_rfl
 a25 := fun _ => rfl
 z25 := fun _ => rfl
 v25 := fun _ => rfl
 t39 := by kernel_rfl
 a39 := fun _ => rfl
 z39 := fun _ => rfl
 v39 := fun _ => rfl
 t45 := by kernel_rfl
 a45 := fun _ => rfl
 z45 := fun _ => rfl
 v45 := fun _ => rfl
 t46 := by kernel_rfl
 a46 := fun _ => rfl
 z46 := fun _ => rfl
 v46 := fun _ => rfl
 t50 := by kernel_rfl
 a50 := fun _ => rfl
 z50 := fun _ => rfl
 v50 := fun _ => rfl
 t53 := by kernel_rfl
 a53 := fun _ => rfl
 z53 := fun _ => rfl
 v53 := fun _ => rfl
 t55 := by kernel_rfl
 a55 := fun _ => rfl
 z55 := fun _ => rfl
 v55 := fun _ => rfl
 t66 := by kernel_rfl
 a66 := fun _ => rfl
 z66 := fun _ => rfl
 v66 := fun _ => rfl
 t70 := by kernel_rfl
 a70 := fun _ => rfl
 z70 := fun _ => rfl
 v70 := fun _ => rfl
 t76 := by kernel_rfl
 a76 := fun _ => rfl
 z76 := fun _ => rfl
 v76 := fun _ => rfl
 t77 := by kernel_rfl
 a77 := fun _ => rfl
 z77 := fun _ => rfl
 v77 := fun _ => rfl
theorem slices_SortFunc_int_int.other {α : Type} [Inhabited α] (enc : α → Value) (w : World) (g m : Nat) (dk : Array α) (os : Array Obj) (k : Nat) (hk : k ≠ g) (hlt : k < w.heap.size) : (Go.Proofs.sortWorld enc w g 0 m dk os).heap[k]? = w.heap[k]? := by
 show ((w.heap.modify g (Go.Sort.onCells (Go.Sort.putCells enc 0 dk))) ++ os)[k]? = _; rw [Array.getElem?_append_left (by rw [Array.size_modify]; exact hlt), Array.getElem?_modify, if_neg (fun e => hk e.symm)]
theorem slices_SortFunc_int_int.here {α : Type} [Inhabited α] (enc : α → Value) (w : World) (g m : Nat) (dk : Array α) (os : Array Obj) {cur : Array Value} {t : TypeId} (hc : w.heap[g]? = some (.cells cur t (0, 0))) : (Go.Proofs.sortWorld enc w g 0 m dk os).heap[g]? = some (.cells (Go.Sort.putCells enc 0 dk cur) t (0, 0)) := by
 have hlt : g < w.heap.size := blk_lt hc; show ((w.heap.modify g (Go.Sort.onCells (Go.Sort.putCells enc 0 dk))) ++ os)[g]? = _; rw [Array.getElem?_append_left (by rw [Array.size_modify]; exact hlt), Array.getElem?_modify, if_pos rfl, hc]; rfl
theorem slices_SortFunc_int_int.calls (k : Nat) (L : List (List Int)) (base : Nat) (ok : Nat → Prop) (v : Value) (w : World) (hS : Kd.S (Kd.slice 3 (Kd.int .i64)) 26 w base ok v L) (hl : L.length ≤ 1000000000) (hcmp : ∀ x ∈ L, ∀ y ∈ L, slices_Compare_int_int.f k x y = some (Cf.lexC x y)) :
  Calls Try.prog 65 #[v, .func (.func 66) #[] #[]] w fun e w' => e = .returned (.tuple #[]) ∧ Kd.S (Kd.slice 3 (Kd.int .i64)) 26 w' base ok v (Cf.sortL L) ∧ Below base w w' := by
 by_cases hL : L = []
 ·subst hL; obtain ⟨A, c, rfl⟩ := Kd.S_slice hS; have h := Go.Proofs.AnyF.slices_SortFunc_none (P := Try.prog) (ρ := slices_SortFunc_int_int.ren) { slices_SortFunc_int_int.lay with } A c (.func (.func 66) #[] #[]) w; change Calls Try.prog 65 _ _ _ at h; refine h.mono ?_; rintro e w' ⟨rfl, rfl⟩; exact ⟨rfl, by rw [(Cf.sortL_perm []).eq_nil]; exact hS, Below.refl _ _⟩
 have hpos : 0 < L.length := List.length_pos_iff.2 hL; obtain ⟨g, cap, rfl, _⟩ := Kd.S_form hS hpos; obtain ⟨f, cur, hb, hok, _, hnc, hcm, hcs, hc, hH⟩ := Cf.S_heads hS; have hin : Inhabited (Fin L.length) := ⟨⟨0, hpos⟩⟩; have hlt : ∀ i : Fin L.length, i.val < cur.size := fun i => by have := i.isLt; omega
 have key : ∀ i : Fin L.length, Kd.R (Kd.int .i64) 3 w base (fun k => (ok k ∧ k ≠ g) ∧ f k = i.val) (cur[i.val]'(hlt i)) (L[i.val]'i.isLt) := by
  intro i; obtain ⟨v, hv, hR⟩ := hH i.val (L[i.val]'i.isLt) i.val (by rw [List.getElem?_zipIdx, Nat.zero_add, List.getElem?_eq_getElem i.isLt]; rfl); rw [Array.getElem?_eq_getElem (hlt i)] at hv; rw [Option.some.inj hv]; exact hR
 (have h1 : Go.Proofs.OneCell (fun i : Fin L.length => cur[i.val]'(hlt i)) := fun i => (Kd.R_val (key i)).2); have hsz : (List.finRange L.length).toArray.size = L.length := by simp
 have hget : ∀ j, (hj : j < L.length) → (List.finRange L.length).toArray[j]! = ⟨j, hj⟩ := fun j hj => by
  rw [getElem!_pos _ j (by simpa using hj)]; simp
 have hHo : Go.Sort.Holds (fun i : Fin L.length => cur[i.val]'(hlt i)) w g 0 (List.finRange L.length).toArray := by
  intro j hj; rw [hsz] at hj; refine ⟨?_, blk_frozen hc _⟩; rw [hget j hj, blk_cell hc, Nat.zero_add, Array.getElem?_eq_getElem (by omega)]
 have hcf : ∀ x y : Fin L.length, Go.Proofs.ltOf (fun i j : Fin L.length => Cf.lexC (L[i.val]'i.isLt) (L[j.val]'j.isLt)) x y = decide (Cf.lexC (L[x.val]'x.isLt) (L[y.val]'y.isLt) < 0) := fun _ _ => rfl
 have hO : Go.Sort.SWO (Go.Proofs.ltOf (fun i j : Fin L.length => Cf.lexC (L[i.val]'i.isLt) (L[j.val]'j.isLt))) := by
  refine ⟨fun x => ?_, fun x y z h1 h2 => ?_, fun x y z h1 h2 => ?_⟩
  ·rw [hcf, Cf.lexC_self]; rfl
  ·rw [hcf] at *; exact decide_eq_true (Cf.lexC_lt (of_decide_eq_true h1) (of_decide_eq_true h2))
  ·rw [hcf] at *; have g1 := of_decide_eq_false h1; have g2 := of_decide_eq_false h2; have n1 := Cf.lexC_neg (L[x.val]'x.isLt) (L[y.val]'y.isLt); have n2 := Cf.lexC_neg (L[y.val]'y.isLt) (L[z.val]'z.isLt); have n3 := Cf.lexC_neg (L[x.val]'x.isLt) (L[z.val]'z.isLt); have := Cf.lexC_le (x := L[z.val]'z.isLt) (y := L[y.val]'y.isLt) (z := L[x.val]'x.isLt) (by omega) (by omega); exact decide_eq_false (by omega)
 have hreads : Go.Proofs.CmpReads Try.prog 66 #[] (fun i : Fin L.length => cur[i.val]'(hlt i)) (fun i j : Fin L.length => Cf.lexC (L[i.val]'i.isLt) (L[j.val]'j.isLt)) g 0 (List.finRange L.length).toArray.size w := by
  intro m os dk _ x y; have hx := Kd.R_step (w1 := Go.Proofs.sortWorld (fun i : Fin L.length => cur[i.val]'(hlt i)) w g 0 m dk os) (key x) (fun k hk hl => slices_SortFunc_int_int.other _ w g m dk os k hk.1.2 hl); have hy := Kd.R_step (w1 := Go.Proofs.sortWorld (fun i : Fin L.length => cur[i.val]'(hlt i)) w g 0 m dk os) (key y) (fun k hk hl => slices_SortFunc_int_int.other _ w g m dk os k hk.1.2 hl); obtain ⟨Ax, cx, ex, hcx, hCx⟩ := Kd.R_reads hx; obtain ⟨Ay, cy, ey, hcy, hCy⟩ := Kd.R_reads hy; show Calls Try.prog 66 #[cur[x.val]'(hlt x), cur[y.val]'(hlt y)] _ _; rw [ex, ey]; refine (slices_Compare_int_int.calls k Ax cx _ Ay cy _ _ _ hCx hcx hCy hcy (hcmp _ (List.getElem_mem _) _ (List.getElem_mem _))).mono ?_; rintro e w' ⟨rfl, hd⟩; exact ⟨rfl, hd.out⟩
 have eg : ∀ args w, (callFunc 66 args).run Try.prog w = .ok (.enter 66 args) w := Go.Proofs.enters_of Try.func66 (by kernel_rfl) rfl; have hT := Go.Proofs.Any.slices_SortFunc slices_SortFunc_int_int.lay (fun i : Fin L.length => cur[i.val]'(hlt i)) h1 (fun i j : Fin L.length => Cf.lexC (L[i.val]'i.isLt) (L[j.val]'j.isLt)) hO 66 #[] g 0 cap (List.finRange L.length).toArray w eg hreads.lays hHo (blk_lt hc) (by rw [hsz]; omega); change Calls Try.prog 65 _ _ _ at hT; rw [hsz] at hT; refine hT.mono ?_; rintro e w' ⟨rfl, d', n, os, hP, hSo, rfl⟩; clear hT hreads eg; refine ⟨rfl, ?_, rfl, rfl, rfl, ?_, fun k hk => ?_⟩
 ·obtain ⟨hds, _, hperm⟩ := hP; rw [hsz] at hds; (have e1 : d'.extract 0 L.length = d' := Array.ext (by rw [Array.size_extract]; omega) fun i _ _ => by simp); (have e2 : (List.finRange L.length).toArray.extract 0 L.length = (List.finRange L.length).toArray := by have h_ : (List.finRange L.length).take L.length = List.finRange L.length := List.take_of_length_le (by simp); simp [h_]); rw [e1, e2] at hperm; have hp : d'.toList.Perm (List.finRange L.length) := hperm
  have hmap : (d'.toList.map fun i : Fin L.length => (L[i.val]'i.isLt, i.val)).map (·.1) = Cf.sortL L := by
   rw [List.map_map]; refine Cf.sortL_eq ?_ ?_
   ·refine (hp.map _).trans ?_
    have e : (List.finRange L.length).map ((fun p : List Int × Nat => p.1) ∘ fun i : Fin L.length => (L[i.val]'i.isLt, i.val)) = L := by
     (refine List.ext_getElem (by simp) fun i h1 h2 => ?_); simp
    rw [e]
   ·rw [List.pairwise_map, List.pairwise_iff_getElem]; intro i j hi hj hij; (have hi' : i < d'.size := by simpa using hi); (have hj' : j < d'.size := by simpa using hj); have hs := hSo i j (Nat.zero_le _) hij (by omega); rw [getElem!_pos d' j hj', getElem!_pos d' i hi', hcf] at hs; have hs2 := of_decide_eq_false hs; have hn := Cf.lexC_neg (L[(d'[i]).val]'(d'[i]).isLt) (L[(d'[j]).val]'(d'[j]).isLt); show Cf.lexC (L[(d'.toList[i]).val]'_) (L[(d'.toList[j]).val]'_) ≤ 0; simp only [Array.getElem_toList]; omega
  rw [← hmap]; have hlen : (d'.toList.map fun i : Fin L.length => (L[i.val]'i.isLt, i.val)).length = L.length := by rw [List.length_map, Array.length_toList, hds]
  have hnd : ((d'.toList.map fun i : Fin L.length => (L[i.val]'i.isLt, i.val)).map (·.2)).Nodup := by
   rw [List.map_map]; refine (hp.map _).nodup_iff.2 ?_
   have e : (List.finRange L.length).map ((fun p : List Int × Nat => p.2) ∘ fun i : Fin L.length => (L[i.val]'i.isLt, i.val)) = List.range L.length := by
    (refine List.ext_getElem (by simp) fun i h1 h2 => ?_); simp
   rw [e]; exact List.nodup_range
  have hSZ := Cf.heads_SZ (w := Go.Proofs.sortWorld (fun i : Fin L.length => cur[i.val]'(hlt i)) w g 0 n d' os) (base := base) (g := g) (cap := cap) (ok := ok) (f := f) (cur := Go.Sort.putCells (fun i : Fin L.length => cur[i.val]'(hlt i)) 0 d' cur) (Z := d'.toList.map fun i : Fin L.length => (L[i.val]'i.isLt, i.val)) hb hok (by omega) hcm (by unfold Go.Sort.putCells; rw [Array.size_mapIdx]; exact hcs) (slices_SortFunc_int_int.here _ w g n d' os hc) hnd ?_
  ·rw [hlen] at hSZ; exact hSZ
  ·intro j x i hj; rw [List.getElem?_map] at hj; obtain ⟨t, ht, he⟩ := Option.map_eq_some_iff.1 hj; obtain ⟨rfl, rfl⟩ := Prod.mk.inj he; obtain ⟨hjl, hje⟩ := List.getElem?_eq_some_iff.1 ht; (have hjs : j < d'.size := by simpa using hjl); refine ⟨cur[t.val]'(hlt t), ?_, Kd.R_mono (Kd.R_step (key t) (fun k hk hl => slices_SortFunc_int_int.other _ w g n d' os k hk.1.2 hl)) fun k hk => ⟨hk.1.1, hk.2⟩⟩; unfold Go.Sort.putCells; rw [Array.getElem?_mapIdx, Array.getElem?_eq_getElem (show j < cur.size by omega), Option.map_some, if_pos ⟨Nat.zero_le _, by omega⟩, Nat.sub_zero, getElem!_pos d' j hjs]; (have e3 : d'[j] = t := by rw [← hje, Array.getElem_toList]); rw [e3]
 ·show w.heap.size ≤ ((w.heap.modify g (Go.Sort.onCells (Go.Sort.putCells (fun i : Fin L.length => cur[i.val]'(hlt i)) 0 d'))) ++ os).size; rw [Array.size_append, Array.size_modify]; omega
 ·have hgl : g < w.heap.size := blk_lt hc; exact slices_SortFunc_int_int.other _ w g n d' os k (by omega) (by omega)
def impl_FullPile.l0 : Nat → Int → List Int → Int → Int → Int → List (S57) → Option (List Int)
 | 0, _, _, _, _, _, _ => none
 | k + 1, x1, x5, i3, g7, aM, aJ => if g7 < i3 then (if g7 = x1 then (impl_FullPile.l0 k x1 x5 i3 (wrap64 (g7 + 1)) aM aJ) else ((impl_Valence.f k aM aJ g7).bind fun dU => (if 0 ≤ g7 then (if g7 < (x5.length : Int) then (impl_FullPile.l0 k x1 (x5.set (g7 : Int).toNat (wrap64 (dU - 1))) i3 (wrap64 (g7 + 1)) aM aJ) else (none)) else (none)))) else (some x5)
def impl_FullPile.f (k : Nat) (aD : Int) (aA : List (S57)) (a1 : Int) : Option (List Int) := (impl_isVertex.f aD aA a1).bind fun aZ => (if aZ = true then (if 0 ≤ aD then (if (aD : Int).toNat ≤ 35184372088832 then ((some (List.replicate (aD : Int).toNat 0 : List Int)).bind fun fO => (impl_FullPile.l0 k a1 fO (fO.length : Int) 0 aD aA)) else (none)) else (none)) else (some ([] : List Int)))
theorem impl_FullPile.mono_l : ∀ k, (∀ y0 y1 y2 y3 y4 y5, LeO (impl_FullPile.l0 k y0 y1 y2 y3 y4 y5) (impl_FullPile.l0 (k + 1) y0 y1 y2 y3 y4 y5))
 | 0 => fun _ _ _ _ _ _ r h => by simp [impl_FullPile.l0] at h
 | k + 1 => by
  have ih0 := impl_FullPile.mono_l k
  ·intro y0 y1 y2 y3 y4 y5
   unfold impl_FullPile.l0
   exact zm14
theorem impl_FullPile.mono : ∀ a0 a1 a2 k, LeO (impl_FullPile.f k a0 a1 a2) (impl_FullPile.f (k + 1) a0 a1 a2) := by
 intro a0 a1 a2 k; have ih0 := impl_FullPile.mono_l k; unfold impl_FullPile.f; exact zm14
theorem impl_FullPile.calls (k : Nat) (aD : Int) (aH : Option Addr) (aG : Nat) (aA : List (S57)) (a1 : Int) (r : List Int) (w : World) (hr0_1 : Kd.C k57 w aH aA.length aA) (hc0_1 : aA.length ≤ aG) (h : impl_FullPile.f k aD aA a1 = some r) :
  Calls Try.prog 68 #[.agg #[.int .i64 aD, .slice aH aA.length aG], .int .i64 a1] w fun e w' => ∃ v0_ : Value, e = .returned (v0_) ∧ Kd.R (Kd.int .i64) 3 w' w.heap.size (fun _ => True) v0_ r ∧ Below w.heap.size w w' := by
 have hu25 := Try.underlying25; have bL := zK_ hr0_1; have bG := zK_ hc0_1; clear hr0_1 hc0_1; have HB := zK_ (Below.refl w.heap.size w); have H : ((impl_isVertex.f aD aA a1).bind fun aZ => (if aZ = true then (if 0 ≤ aD then (if (aD : Int).toNat ≤ 35184372088832 then ((some (List.replicate (aD : Int).toNat 0 : List Int)).bind fun fO => (impl_FullPile.l0 k a1 fO (fO.length : Int) 0 aD aA)) else (none)) else (none)) else (some ([] : List Int)))) = some r := h; clear h; obtain ⟨aZ, A30, H⟩ := zO_ H; (try dsimp only at H); have A3 := zK_ A30; clear A30; by_cases c4 : aZ = true; rotate_left
 ·replace c4 := Bool.eq_false_iff.mpr c4; subst c4; rw [if_neg (show ¬ (false = true) by decide)] at H; obtain rfl := Option.some.inj H; go_enter Try.func68, Try.ntmps68; (go_wp2_with (first | ((with_reducible refine gate_dst (N := 2) rfl ?_); refine box_event ?hg (N := 2) ?hd (cs := #[.int .i64 aD, .slice aH aA.length aG]) (t := 25) ?hr ?_; (case hd => rfl); (case hg => rfl); (case hr => exact zz9); intro aE hg w24 hbox hb; have n_ := zA4 (below_step zz1 hb) hbox (zz10 : w.heap.size ≤ aE) (zz10 : w.heap.size ≤ aE); clear HB; obtain ⟨HB, aC, GW101, GE101⟩ := n_; clear hb hbox hg; have lS := zC20 aC; have lR := zC21 aC; have lK := blk_frozen aC.out 0; have lJ := blk_frozen aC.out 1) | ((with_reducible refine gate_callee (f := 47) rfl ?_); refine goesL_ (some 9) rfl rfl Try.func47 (by kernel_rfl) rfl #[.agg #[.int .i64 aD, .slice aH aA.length aG], .int .i64 a1] rfl zz4 ?_; (with_reducible refine (impl_isVertex.calls aD _ _ aA a1 false _ ?side1 ?side2 A3.out).mono ?_); (case side1 => exact zz6); (case side2 => exact bG.out); rintro e w26 ⟨rfl, hb⟩; refine ⟨_, rfl, ?_⟩; have n_ := zA2 (blk_below (g := aE) (o := .cells #[.int .i64 aD, .slice aH aA.length aG] 25 (0, 0)) zz2 hb) (below_step zz0 hb); clear aC HB; obtain ⟨aC, HB⟩ := n_; clear hb))); go_ret; exact ⟨_, zz7, zz43, zz0⟩
 subst c4; rw [if_pos rfl] at H; by_cases c5 : 0 ≤ aD; rotate_left
 ·rw [if_neg c5] at H; exact absurd H (by simp)
 rw [if_pos c5] at H; have dH := eq_true c5; have kA : decide (0 ≤ aD) = true := decide_eq_true c5; clear c5; by_cases c6 : (aD : Int).toNat ≤ 35184372088832; rotate_left
 ·rw [if_neg c6] at H; exact absurd H (by simp)
 rw [if_pos c6] at H; have dY := eq_true c6; have j9 : decide ((aD : Int).toNat ≤ 35184372088832) = true := decide_eq_true c6; clear c6; obtain ⟨fO, hy_⟩ : ∃ y_ : List Int, y_ = (List.replicate (aD : Int).toNat 0) := ⟨_, rfl⟩; (replace H : (impl_FullPile.l0 k a1 fO (fO.length : Int) 0 aD aA) = some r := zzY); have j5 := zK_ hy_; clear hy_; have H' := zK_ H; clear H; go_enter Try.func68, Try.ntmps68; (go_wp2_with (first | ((with_reducible refine gate_dst (N := 2) rfl ?_); refine box_event ?hg (N := 2) ?hd (cs := #[.int .i64 aD, .slice aH aA.length aG]) (t := 25) ?hr ?_; (case hd => rfl); (case hg => rfl); (case hr => exact zz9); intro aE hg w7 hbox hb; have n_ := zA4 (below_step zz1 hb) hbox (zz10 : w.heap.size ≤ aE) (zz10 : w.heap.size ≤ aE); clear HB; obtain ⟨HB, aC, GW101, GE101⟩ := n_; clear hb hbox hg; have gG := zC20 aC; have gF := zC21 aC; have gC := blk_frozen aC.out 0; have gA := blk_frozen aC.out 1) | ((with_reducible refine gate_callee (f := 47) rfl ?_); refine goesL_ (some 9) rfl rfl Try.func47 (by kernel_rfl) rfl #[.agg #[.int .i64 aD, .slice aH aA.length aG], .int .i64 a1] rfl zz4 ?_; (with_reducible refine (impl_isVertex.calls aD _ _ aA a1 true _ ?side1 ?side2 A3.out).mono ?_); (case side1 => exact zz6); (case side2 => exact bG.out); rintro e w9 ⟨rfl, hb⟩; refine ⟨_, rfl, ?_⟩; have n_ := zA2 (blk_below (g := aE) (o := .cells #[.int .i64 aD, .slice aH aA.length aG] 25 (0, 0)) zz2 hb) (below_step zz0 hb); clear aC HB; obtain ⟨aC, HB⟩ := n_; clear hb; have cK := zC20 aC; have cJ := zC21 aC; have cI := blk_frozen aC.out 0; have cH := blk_frozen aC.out 1) | ((with_reducible refine gate_dst (N := 13) rfl ?_); refine Kd.R_make (Kd.int .i64) _ 3 rfl (N := 13) rfl 26 _ _ rfl aD rfl rfl Try.underlying26 (.int .i64 0) 8 info3 rfl (by decide) (by omega) 0 (ok := fun _ => True) (okp := fun _ => True) rfl (fun _ hk => hk) trivial (of_decide_eq_true zz3) (Nat.le_trans (Nat.mul_le_mul_right _ (of_decide_eq_true zz3 : aD.toNat ≤ 35184372088832)) (by omega)) (Below.refl _ _) (Nat.le_refl _) ?_; intro v104 w11 ho12 hb hg_ hnew_; clear hg_ hnew_; (first | rw [← j5.out] at ho12 | (simp only [Int.reduceToNat] at ho12; rw [← j5.out] at ho12)); have n_ := zA3 (Kd.R_lower ho12 (below_size zz0)) (blk_below (g := aE) (o := .cells #[.int .i64 aD, .slice aH aA.length aG] 25 (0, 0)) zz2 hb) (below_step zz0 hb); clear aC HB; obtain ⟨eZ, aC, HB⟩ := n_; clear hb ho12; obtain ⟨Ao13, co13, rO⟩ := Kd.R_slice eZ.out; subst rO))); (go_loopg [16] k (fun kq v16 w' => ∃ (aN : List Int) (eV : Int), v16 = .int .i64 eV ∧ Aside0 (impl_FullPile.l0 kq a1 aN (fO.length : Int) eV aD aA = some r) ∧ Aside0 (kq ≤ k) ∧ Aside0 (Kd.R (Kd.int .i64) 3 w' w.heap.size (fun _ => True) (.slice Ao13 fO.length co13) aN) ∧ Aside0 (w'.heap[aE]? = some (.cells #[.int .i64 aD, (.slice aH aA.length aG)] 25 (0, 0))) ∧ Aside0 (Below w.heap.size w w'))); case atStart => exact ⟨(fO), (0), zz5, H', ⟨Nat.le_refl _⟩, ⟨by (with_reducible repeat (first | apply Kd.R_alloc | apply Kd.R_drewN | apply Kd.R_drew)); exact eZ.out⟩, ⟨zz2⟩, ⟨zz0⟩⟩
 case round =>
  clear H'; (try clear p2); (try clear c4); (try clear c5); (try clear dH); (try clear kA); (try clear c6); (try clear dY); (try clear j9); (try clear cK); (try clear cJ); (try clear gG); (try clear gF); (try clear cI); (try clear cH); (try clear gC); (try clear gA); obtain ⟨aN, eV, rfl, HA, HK1, bY, aC, HB⟩ := hrel; have dT := (Kd.R_reads' bY.out).1; rw [dT] at bY; (try simp only [dT]); (try simp only [dT] at aC)
  cases gk with
  | zero => exact absurd HA.out (by simp [impl_FullPile.l0])
  | succ k1 =>
   have H := HA.out; clear HA; simp only [impl_FullPile.l0] at H; by_cases c14 : eV < (fO.length : Int); rotate_left
   ·rw [if_neg c14] at H; have gJ := decide_eq_false c14; (try (have iM := gJ; first | rw [dT] at iM | rw [← dT] at iM)); clear c14; obtain rfl := Option.some.inj H; go_wp2; go_ret; exact ⟨_, zz7, zz22, zz0⟩
   rw [if_pos c14] at H; have gJ := decide_eq_true c14; (try (have iM := gJ; first | rw [dT] at iM | rw [← dT] at iM)); clear c14; by_cases c15 : eV = a1
   ·rw [if_pos c15] at H; have iK : (eV == a1) = true := beq_iff_eq.mpr c15; have pM : (eV != a1) = false := bne_eq_false_iff_eq.mpr c15; clear c15; have H' := zK_ H; clear H; go_wp2; (try simp only [← dT]); go_roundg k1; (case measure => have := HK1.out; omega); case rel => exact ⟨(aN), (wrap64 (eV + 1)), zz5, H', ⟨zz34⟩, ⟨by (try simp only [dT]); (with_reducible repeat (first | apply Kd.R_alloc | apply Kd.R_drewN | apply Kd.R_drew)); exact bY.out⟩, ⟨by (try simp only [dT]); (with_reducible repeat (first | refine blk_drewN ?_ _ | refine blk_drew ?_ | refine blk_alloc ?_ _)); exact aC.out⟩, ⟨zz0⟩⟩
   rw [if_neg c15] at H; have iK : (eV == a1) = false := beq_eq_false_iff_ne.mpr c15; have pM : (eV != a1) = true := bne_iff_ne.mpr c15; obtain ⟨dU, A160, H⟩ := zO_ H; (try dsimp only at H); have A16 := zK_ A160; clear A160; by_cases c17 : 0 ≤ eV; rotate_left
   ·rw [if_neg c17] at H; exact absurd H (by simp)
   rw [if_pos c17] at H; have jR := decide_eq_true c17; clear c17; by_cases c18 : eV < (aN.length : Int); rotate_left
   ·rw [if_neg c18] at H; exact absurd H (by simp)
   rw [if_pos c18] at H; have iI := decide_eq_true c18; (try (have mM := iI; first | rw [dT] at mM | rw [← dT] at mM)); clear c18; obtain ⟨i5, hy_⟩ : ∃ y_ : List Int, y_ = (aN.set (eV : Int).toNat (wrap64 (dU - 1))) := ⟨_, rfl⟩; (replace H : (impl_FullPile.l0 k1 a1 i5 (fO.length : Int) (wrap64 (eV + 1)) aD aA) = some r := zzY); have kR := zK_ hy_; clear hy_; have H' := zK_ H; clear H; have kL := zC20 aC; have kK := zC21 aC; have kF := blk_frozen aC.out 0; have kE := blk_frozen aC.out 1; (go_wp2_with (first | ((with_reducible refine gate_callee (f := 75) rfl ?_); refine goesL_ (some 26) rfl rfl Try.func75 (by kernel_rfl) rfl #[.agg #[.int .i64 aD, .slice aH aA.length aG], .int .i64 eV] rfl zz4 ?_; (with_reducible refine (impl_Valence.calls k1 aD _ _ aA eV dU _ ?side1 ?side2 A16.out).mono ?_); (case side1 => exact zz6); (case side2 => exact bG.out); rintro e w21 ⟨rfl, hb⟩; refine ⟨_, rfl, ?_⟩; have n_ := zA3 (Kd.R_below zz22 hb) (blk_below (g := aE) (o := .cells #[.int .i64 aD, .slice aH aA.length aG] 25 (0, 0)) zz2 hb) (below_step zz0 hb); clear bY aC HB; obtain ⟨bY, aC, HB⟩ := n_; clear hb; have p19 : 0 ≤ (eV : Int) := of_decide_eq_true zz3; have q19 : (eV : Int) < ((aN.length : Int) : Int) := of_decide_eq_true zz3; obtain ⟨go19, co19, qU, sP, gl19, cl19, HG19⟩ := Kd.R_form bY.out (by omega); (first | cases qU | (injection qU with ea_ en_ ec_; (first | subst ea_ | (injection ea_ with ea_; subst ea_)); subst ec_; clear en_)); have yW := zK_ sP; have B7 := zK_ HG19; clear sP gl19 HG19; obtain ⟨wQ, yD⟩ := Kd.R_celln 0 bY.out (eV : Int) p19 q19; replace p19 := eq_true p19; replace q19 := eq_true q19; obtain ⟨hy22_, hz22_⟩ := Kd.R_celln 0 bY.out (eV : Int) (of_decide_eq_true zz3) (of_decide_eq_true zz3); have rU := Kd.R_putg bY.out (eV : Int) (wrap64 (dU - 1))) | ((with_reducible refine gate_store (t := 3) (p := 28) rfl ?_); refine store_event (t := 3) (p := 28) (v := ?vo_w23) (w1 := (w21.setCell ⟨go19, (eV : Int).toNat, none⟩ (.int .i64 (wrap64 (dU - 1))))) ?hg ?ho ?hn ?hr ?_; (case ho => rfl); (case hg => rfl); (case hn => rfl); (case hr => exact zz9); intro w23 hw; have hg : w21.grownBy w23 (some go19) := (by rw [hw]; exact rU.2); have hp_ : Kd.R (Kd.int .i64) 3 w23 w.heap.size (fun _ => True) (.slice (some ⟨go19, 0, none⟩) aN.length co13) i5 := (by rw [hw, kR.out]; exact rU.1); clear rU; have n_ := zA3 hp_ (blk_grown (g := aE) (o := .cells #[.int .i64 aD, .slice aH aA.length aG] 25 (0, 0)) zz2 hg (Kd.R_ne bY.out aC.out (by decide))) (by rw [hw]; exact below_set (HB.out) yW.out : Below w.heap.size w w23); clear bY aC HB; obtain ⟨bY, aC, HB⟩ := n_; clear hg hw hp_))); (try simp only [← dT]); go_roundg k1; (case measure => have := HK1.out; omega); case rel => exact ⟨(i5), (wrap64 (eV + 1)), zz5, H', ⟨zz34⟩, ⟨by (try simp only [dT]); (with_reducible repeat (first | apply Kd.R_alloc | apply Kd.R_drewN | apply Kd.R_drew)); exact bY.out⟩, ⟨by (try simp only [dT]); (with_reducible repeat (first | refine blk_drewN ?_ _ | refine blk_drew ?_ | refine blk_alloc ?_ _)); exact aC.out⟩, ⟨zz0⟩⟩
def impl_plus.l0 : Nat → List Int → List Int → Int → Int → Option (List Int)
 | 0, _, _, _, _ => none
 | k + 1, x1, x5, fI, eR => if eR < fI then (if 0 ≤ eR then (if eR < (x5.length : Int) then (if eR < (x1.length : Int) then (impl_plus.l0 k x1 (x5.set (eR : Int).toNat (wrap64 ((rd x5 eR) + (rd x1 eR)))) fI (wrap64 (eR + 1))) else (none)) else (none)) else (none)) else (some x5)
def impl_plus.f (k : Nat) (l0 : List Int) (l1 : List Int) : Option (List Int) := (impl_copyInts.f l0).bind fun dF => (impl_plus.l0 k l1 dF (dF.length : Int) 0)
theorem impl_plus.mono_l : ∀ k, (∀ y0 y1 y2 y3, LeO (impl_plus.l0 k y0 y1 y2 y3) (impl_plus.l0 (k + 1) y0 y1 y2 y3))
 | 0 => fun _ _ _ _ r h => by simp [impl_plus.l0] at h
 | k + 1 => by
  have ih0 := impl_plus.mono_l k
  ·intro y0 y1 y2 y3
   unfold impl_plus.l0
   exact zm0
theorem impl_plus.mono : ∀ a0 a1 k, LeO (impl_plus.f k a0 a1) (impl_plus.f (k + 1) a0 a1) := by
 intro a0 a1 k; have ih0 := impl_plus.mono_l k; unfold impl_plus.f; exact zm0
def impl_plus.T5 : Bool × List (List Nat × List Nat) := (true, [([], []), ([], []), ([0, 1], [0, 1]), ([2], [2]), ([], []), ([], []), ([4, 5], [4, 5]), ([6], [6]), ([3, 7], [3, 7]), ([0, 1, 0, 1, 2, 3, 4, 5, 6, 7, 8], [0, 1]), ([9, 8, 0, 1, 2, 3, 4, 5, 6, 7, 8], [8, 9])])
def impl_plus.B5 : List Nat := [0, 0, 3, 7, 0, 0, 48, 112, 255, 511, 1023]
theorem impl_plus.tab5 : rtab .any (opsOf Try.f69 5) = impl_plus.T5 := by kernel_rfl
theorem impl_plus.bits5 : waitsOk impl_plus.T5.2 impl_plus.B5 = true := by kernel_rfl
theorem impl_plus.calls (k : Nat) (A0 : Option Addr) (c0 : Nat) (l0 : List Int) (A1 : Option Addr) (c1 : Nat) (l1 : List Int) (r : List Int) (w : World) (hr0 : Kd.C (Kd.int .i64) w A0 l0.length l0) (hc0 : l0.length ≤ c0) (hr1 : Kd.C (Kd.int .i64) w A1 l1.length l1) (hc1 : l1.length ≤ c1) (h : impl_plus.f k l0 l1 = some r) :
  Calls Try.prog 69 #[.slice A0 l0.length c0, .slice A1 l1.length c1] w fun e w' => ∃ v0_ : Value, e = .returned (v0_) ∧ Kd.R (Kd.int .i64) 3 w' w.heap.size (fun _ => True) v0_ r ∧ Below w.heap.size w w' := by
 have HR0 := zK_ hr0; have HC0 := zK_ hc0; clear hr0 hc0; have HR1 := zK_ hr1; have HC1 := zK_ hc1; clear hr1 hc1; have HB := zK_ (Below.refl w.heap.size w); have H : ((impl_copyInts.f l0).bind fun dF => (impl_plus.l0 k l1 dF (dF.length : Int) 0)) = some r := h; clear h; obtain ⟨dF, A30, H⟩ := zO_ H; (try dsimp only at H); have A3 := zK_ A30; clear A30; have H' := zK_ H; clear H; go_enter Try.func69, Try.ntmps69; (go_wp2_with (first | ((with_reducible refine gate_callee (f := 86) rfl ?_); refine goesL_ (some 8) rfl rfl Try.func86 (by kernel_rfl) rfl #[.slice A0 l0.length c0] rfl zz4 ?_; (with_reducible refine (impl_copyInts.calls _ _ l0 dF _ ?side1 ?side2 A3.out).mono ?_); (case side1 => exact zz25); (case side2 => exact HC0.out); rintro e w4 ⟨v102, rfl, ho0, hb⟩; refine ⟨_, rfl, ?_⟩; have n_ := zA2 (Kd.R_lower ho0 (below_size zz1)) (below_step zz1 hb); clear HB; obtain ⟨jV, HB⟩ := n_; clear ho0 hb; obtain ⟨Ao5, co5, rN⟩ := Kd.R_slice jV.out; subst rN))); (go_loopg [11] k (fun kq v11 w' => ∃ (aN : List Int) (aI : Int), v11 = .int .i64 aI ∧ Aside0 (impl_plus.l0 kq l1 aN (dF.length : Int) aI = some r) ∧ Aside0 (kq ≤ k) ∧ Aside0 (Kd.R (Kd.int .i64) 3 w' w.heap.size (fun _ => True) (.slice Ao5 dF.length co5) aN) ∧ Aside0 (Below w.heap.size w w'))); case atStart => exact ⟨(dF), (0), zz5, H', ⟨Nat.le_refl _⟩, ⟨zz41⟩, ⟨zz1⟩⟩
 case round =>
  clear H'; (try clear c1); (try clear p2); obtain ⟨aN, aI, rfl, HA, HK1, bY, HB⟩ := hrel; have dT := (Kd.R_reads' bY.out).1; rw [dT] at bY; (try simp only [dT])
  cases gk with
  | zero => exact absurd HA.out (by simp [impl_plus.l0])
  | succ k1 =>
   have H := HA.out; clear HA; simp only [impl_plus.l0] at H; by_cases c6 : aI < (dF.length : Int); rotate_left
   ·rw [if_neg c6] at H; have dY := decide_eq_false c6; (try (have jO := dY; first | rw [dT] at jO | rw [← dT] at jO)); clear c6; obtain rfl := Option.some.inj H; go_wp2; go_ret; exact ⟨_, zz7, zz22, zz1⟩
   rw [if_pos c6] at H; have dY := decide_eq_true c6; (try (have jO := dY; first | rw [dT] at jO | rw [← dT] at jO)); clear c6; by_cases c7 : 0 ≤ aI; rotate_left
   ·rw [if_neg c7] at H; exact absurd H (by simp)
   rw [if_pos c7] at H; have dK := decide_eq_true c7; clear c7; by_cases c8 : aI < (aN.length : Int); rotate_left
   ·rw [if_neg c8] at H; exact absurd H (by simp)
   rw [if_pos c8] at H; have fP := decide_eq_true c8; (try (have n4 := fP; first | rw [dT] at n4 | rw [← dT] at n4)); clear c8; by_cases c9 : aI < (l1.length : Int); rotate_left
   ·rw [if_neg c9] at H; exact absurd H (by simp)
   rw [if_pos c9] at H; have fN := decide_eq_true c9; (try (have nZ := fN; first | rw [dT] at nZ | rw [← dT] at nZ)); clear c9; obtain ⟨l3, hy_⟩ : ∃ y_ : List Int, y_ = (aN.set (aI : Int).toNat (wrap64 ((rd aN aI) + (rd l1 aI)))) := ⟨_, rfl⟩; (replace H : (impl_plus.l0 k1 l1 l3 (dF.length : Int) (wrap64 (aI + 1))) = some r := zzY); have k9 := zK_ hy_; clear hy_; have H' := zK_ H; clear H; (try go_wp2); have n_ := zA2 (Kd.R_drew bY.out) (below_drew1 HB.out); clear bY HB; obtain ⟨bY, HB⟩ := n_; have p104 : 0 ≤ (aI : Int) := of_decide_eq_true zz3; have q104 : aI < (aN.length : Int) := of_decide_eq_true zz3; obtain ⟨dL, e104, bE⟩ := Kd.at_int (Kd.R_reads' bY.out).2.2 aI p104 q104; cases e104; replace p104 := eq_true p104; replace q104 := eq_true q104; have p105 : 0 ≤ (aI : Int) := of_decide_eq_true zz3; have q105 : aI < (l1.length : Int) := of_decide_eq_true zz3; obtain ⟨cQ, e105, bF⟩ := Kd.at_int HR1.out aI p105 q105; have hw105_0 := bF; cases e105; replace bF := (HB.out.cell (World.block_lt_of_cell? w _ bF)).trans bF; replace p105 := eq_true p105; replace q105 := eq_true q105; have p10 : 0 ≤ (aI : Int) := of_decide_eq_true zz3; have q10 : (aI : Int) < ((aN.length : Int) : Int) := of_decide_eq_true zz3; obtain ⟨go10, co10, kV, pC, gl10, cl10, HG10⟩ := Kd.R_form bY.out (by omega); (first | cases kV | (injection kV with ea_ en_ ec_; (first | subst ea_ | (injection ea_ with ea_; subst ea_)); subst ec_; clear en_)); have qW := zK_ pC; have uD := zK_ HG10; clear pC gl10 HG10; (first | simp only [add_plain] at bE | skip); obtain ⟨oO, o9⟩ := Kd.R_celln 0 bY.out (aI : Int) p10 q10; replace p10 := eq_true p10; replace q10 := eq_true q10; have nA := Kd.R_putn bY.out (aI : Int) (wrap64 ((rd aN aI) + (rd l1 aI))); rw [← k9.out] at nA; have tZ := zK_ nA; clear nA; refine start_ (n := 11) (S := fun w' => w'.cell? ⟨go10, (aI).toNat, none⟩ = some (.int .i64 (rd aN aI)) ∧ w'.cell? (cQ.add (aI).toNat) = some (.int .i64 (rd l1 aI))) (ds := [10]) (zM 11 0) (by kernel_rfl) rfl rfl ⟨bE, ((HB.out.cell (World.block_lt_of_cell? w _ hw105_0)).trans hw105_0)⟩ (fun hHeld => ?_); refine with_tabW impl_plus.tab5 impl_plus.bits5 (fun HT_ HW_ => ?_); generalize wr.drew = w11 at bY HB uD tZ o9 bE bF oO hHeld ⊢; refine zQ 0 14 (zM 11 1) ?_
   refine zQ 1 15 (zM 11 3) ?_
   refine zQ 2 16 (zM 11 7) ?_
   refine zQ 4 18 (zM 11 23) ?_
   refine zQ 5 19 (zM 11 55) ?_
   refine zQ 6 20 (zM 11 119) ?_
   refine take_ (i := 3) (N := some 17) (v := ?_) (a' := ?_) (zM 11 127) rfl rfl (take_ofW HT_.out HW_.out (by kernel_rfl)) (fun _ _ _ h => h) (Or.inl ⟨by rfl, ?_⟩) hHeld ?_ ?_; rotate_left
   ·rintro w' ⟨s0, s1⟩; exact zzT
   rotate_left
   ·exact zzS
   refine take_ (i := 7) (N := some 21) (v := ?_) (a' := ?_) (zM 11 255) rfl rfl (take_ofW HT_.out HW_.out (by kernel_rfl)) (fun _ _ _ h => h) (Or.inl ⟨by rfl, ?_⟩) hHeld ?_ ?_; rotate_left
   ·rintro w' ⟨s0, s1⟩; exact zzT
   rotate_left
   ·exact zzS
   refine zQ 8 22 (zM 11 511) ?_
   refine zQ 9 23 (zM 11 1023) ?_
   refine last_ (i := 10) (N := none) (zM 11 2047) rfl rfl (one_of HT_.out (by kernel_rfl)) (by decide) (fun K hK => ?_); refine skip_ (w1 := ?_) (by rfl) rfl ?_ ?_; rotate_left
   ·go_simp; rfl
   refine hK.out _ _ ?_; clear hK K; refine done_ (done_of HT_.out (by kernel_rfl)) ?_; (try go_wp2); (try simp only [← dT]); go_roundg k1; (case measure => have := HK1.out; omega); case rel => exact ⟨(l3), (wrap64 (aI + 1)), zz5, H', ⟨zz34⟩, ⟨by (try simp only [dT]); (with_reducible repeat (first | apply Kd.R_alloc | apply Kd.R_drewN | apply Kd.R_drew)); exact tZ.out⟩, ⟨by repeat (first | (with_reducible first | exact HB.out | apply below_alloc | apply pw_below_drewN | apply below_drew1 | refine below_set ?_ qW.out) | exact HB.out)⟩⟩
def impl_NegateDivisor.l0 : Nat → List Int → Int → Int → Option (List Int)
 | 0, _, _, _ => none
 | k + 1, x3, x8, x9 => if x9 < x8 then (if 0 ≤ x9 then (if x9 < (x3.length : Int) then (impl_NegateDivisor.l0 k (x3.set (x9 : Int).toNat (wrap64 (-(rd x3 x9)))) x8 (wrap64 (x9 + 1))) else (none)) else (none)) else (some x3)
def impl_NegateDivisor.f (k : Nat) (l0 : List Int) : Option (List Int) := (impl_copyInts.f l0).bind fun dF => (impl_NegateDivisor.l0 k dF (dF.length : Int) 0)
theorem impl_NegateDivisor.mono_l : ∀ k, (∀ y0 y1 y2, LeO (impl_NegateDivisor.l0 k y0 y1 y2) (impl_NegateDivisor.l0 (k + 1) y0 y1 y2))
 | 0 => fun _ _ _ r h => by simp [impl_NegateDivisor.l0] at h
 | k + 1 => by
  have ih0 := impl_NegateDivisor.mono_l k
  ·intro y0 y1 y2
   unfold impl_NegateDivisor.l0
   exact zm0
theorem impl_NegateDivisor.mono : ∀ a0 k, LeO (impl_NegateDivisor.f k a0) (impl_NegateDivisor.f (k + 1) a0) := by
 intro a0 k; have ih0 := impl_NegateDivisor.mono_l k; unfold impl_NegateDivisor.f; exact zm0
theorem impl_NegateDivisor.calls (k : Nat) (A0 : Option Addr) (c0 : Nat) (l0 : List Int) (r : List Int) (w : World) (hr0 : Kd.C (Kd.int .i64) w A0 l0.length l0) (hc0 : l0.length ≤ c0) (h : impl_NegateDivisor.f k l0 = some r) :
  Calls Try.prog 70 #[.slice A0 l0.length c0] w fun e w' => ∃ v0_ : Value, e = .returned (v0_) ∧ Kd.R (Kd.int .i64) 3 w' w.heap.size (fun _ => True) v0_ r ∧ Below w.heap.size w w' := by
 have HR0 := zK_ hr0; have HC0 := zK_ hc0; clear hr0 hc0; have HB := zK_ (Below.refl w.heap.size w); have H : ((impl_copyInts.f l0).bind fun dF => (impl_NegateDivisor.l0 k dF (dF.length : Int) 0)) = some r := h; clear h; obtain ⟨dF, A20, H⟩ := zO_ H; (try dsimp only at H); have A2 := zK_ A20; clear A20; have H' := zK_ H; clear H; go_enter Try.func70, Try.ntmps70; (go_wp2_with (first | ((with_reducible refine gate_callee (f := 86) rfl ?_); refine goesL_ (some 6) rfl rfl Try.func86 (by kernel_rfl) rfl #[.slice A0 l0.length c0] rfl zz4 ?_; (with_reducible refine (impl_copyInts.calls _ _ l0 dF _ ?side1 ?side2 A2.out).mono ?_); (case side1 => exact zz25); (case side2 => exact HC0.out); rintro e w3 ⟨v102, rfl, ho0, hb⟩; refine ⟨_, rfl, ?_⟩; have n_ := zA2 (Kd.R_lower ho0 (below_size zz1)) (below_step zz1 hb); clear HB; obtain ⟨jV, HB⟩ := n_; clear ho0 hb; obtain ⟨Ao4, co4, yL⟩ := Kd.R_slice jV.out; subst yL))); (go_loopg [9] k (fun kq v9 w' => ∃ (bT : List Int) (bH : Int), v9 = .int .i64 bH ∧ Aside0 (impl_NegateDivisor.l0 kq bT (dF.length : Int) bH = some r) ∧ Aside0 (kq ≤ k) ∧ Aside0 (Kd.R (Kd.int .i64) 3 w' w.heap.size (fun _ => True) (.slice Ao4 dF.length co4) bT) ∧ Aside0 (Below w.heap.size w w'))); case atStart => exact ⟨(dF), (0), zz5, H', ⟨Nat.le_refl _⟩, ⟨zz41⟩, ⟨zz1⟩⟩
 case round =>
  clear H'; (try clear p2); obtain ⟨bT, bH, rfl, HA, HK1, bC, HB⟩ := hrel; have iX := (Kd.R_reads' bC.out).1; rw [iX] at bC; (try simp only [iX])
  cases gk with
  | zero => exact absurd HA.out (by simp [impl_NegateDivisor.l0])
  | succ k1 =>
   have H := HA.out; clear HA; simp only [impl_NegateDivisor.l0] at H; by_cases c5 : bH < (dF.length : Int); rotate_left
   ·rw [if_neg c5] at H; have dH := decide_eq_false c5; (try (have jP := dH; first | rw [iX] at jP | rw [← iX] at jP)); clear c5; obtain rfl := Option.some.inj H; go_wp2; go_ret; exact ⟨_, zz7, zz19, zz1⟩
   rw [if_pos c5] at H; have dH := decide_eq_true c5; (try (have jP := dH; first | rw [iX] at jP | rw [← iX] at jP)); clear c5; by_cases c6 : 0 ≤ bH; rotate_left
   ·rw [if_neg c6] at H; exact absurd H (by simp)
   rw [if_pos c6] at H; have dY := decide_eq_true c6; clear c6; by_cases c7 : bH < (bT.length : Int); rotate_left
   ·rw [if_neg c7] at H; exact absurd H (by simp)
   rw [if_pos c7] at H; have dK := decide_eq_true c7; (try (have n5 := dK; first | rw [iX] at n5 | rw [← iX] at n5)); clear c7; obtain ⟨dW, hy_⟩ : ∃ y_ : List Int, y_ = (bT.set (bH : Int).toNat (wrap64 (-(rd bT bH)))) := ⟨_, rfl⟩; (replace H : (impl_NegateDivisor.l0 k1 dW (dF.length : Int) (wrap64 (bH + 1))) = some r := zzY); have g5 := zK_ hy_; clear hy_; have H' := zK_ H; clear H; have p104 : 0 ≤ (bH : Int) := of_decide_eq_true zz3; have q104 : bH < (bT.length : Int) := of_decide_eq_true zz3; obtain ⟨dL, e104, bE⟩ := Kd.at_int (Kd.R_reads' bC.out).2.2 bH p104 q104; cases e104; replace p104 := eq_true p104; replace q104 := eq_true q104; have p8 : 0 ≤ (bH : Int) := of_decide_eq_true zz3; have q8 : (bH : Int) < ((bT.length : Int) : Int) := of_decide_eq_true zz3; obtain ⟨go8, co8, pD, pA, gl8, cl8, HG8⟩ := Kd.R_form bC.out (by omega); (first | cases pD | (injection pD with ea_ en_ ec_; (first | subst ea_ | (injection ea_ with ea_; subst ea_)); subst ec_; clear en_)); have rE := zK_ pA; have yU := zK_ HG8; clear pA gl8 HG8; (first | simp only [add_plain] at bE | skip); obtain ⟨jZ, mF⟩ := Kd.R_celln 0 bC.out (bH : Int) p8 q8; replace p8 := eq_true p8; replace q8 := eq_true q8; have yT := Kd.R_putg bC.out (bH : Int) (wrap64 (-(rd bT bH))); (go_wp2_with (first | ((with_reducible refine gate_store (t := 3) (p := 19) rfl ?_); refine store_event (t := 3) (p := 19) (v := ?vo_w10) (w1 := (wr.setCell ⟨go8, (bH : Int).toNat, none⟩ (.int .i64 (wrap64 (-(rd bT bH)))))) ?hg ?ho ?hn ?hr ?_; (case ho => rfl); (case hg => rfl); (case hn => rfl); (case hr => exact zz9); intro w10 hw; have hg : wr.grownBy w10 (some go8) := (by rw [hw]; exact yT.2); have hp_ : Kd.R (Kd.int .i64) 3 w10 w.heap.size (fun _ => True) (.slice (some ⟨go8, 0, none⟩) bT.length co4) dW := (by rw [hw, g5.out]; exact yT.1); clear yT; have n_ := zA2 hp_ (by rw [hw]; exact below_set (HB.out) rE.out : Below w.heap.size w w10); clear bC HB; obtain ⟨bC, HB⟩ := n_; clear hg hw hp_))); (try simp only [← iX]); go_roundg k1; (case measure => have := HK1.out; omega); case rel => exact ⟨(dW), (wrap64 (bH + 1)), zz5, H', ⟨zz34⟩, ⟨by (try simp only [iX]); (with_reducible repeat (first | apply Kd.R_alloc | apply Kd.R_drewN | apply Kd.R_drew)); exact bC.out⟩, ⟨zz1⟩⟩
def impl_RecurrentPiles.row (k : Nat) (F x : List Int) : Option (List Int) := (impl_NegateDivisor.f k x).bind fun y => impl_plus.f k F y
theorem impl_RecurrentPiles.row_mono (k : Nat) (F x : List Int) : LeO (impl_RecurrentPiles.row k F x) (impl_RecurrentPiles.row (k + 1) F x) := LeO.bind (impl_NegateDivisor.mono _ k) fun _ => impl_plus.mono _ _ k
def impl_RecurrentPiles.rows (k : Nat) (F : List Int) (L : List (List Int)) : List (List Int) := L.map fun x => (impl_RecurrentPiles.row k F x).getD []
abbrev impl_RecurrentPiles.ok (k : Nat) (F : List Int) (L : List (List Int)) : Prop := (∀ x ∈ L, (impl_RecurrentPiles.row k F x).isSome = true) ∧ L.length ≤ 1000000 ∧ ∀ x ∈ impl_RecurrentPiles.rows k F L, ∀ y ∈ impl_RecurrentPiles.rows k F L, slices_Compare_int_int.f k x y = some (Cf.lexC x y)
theorem impl_RecurrentPiles.rows_up {k : Nat} {F : List Int} {L : List (List Int)} (h : impl_RecurrentPiles.ok k F L) : impl_RecurrentPiles.rows (k + 1) F L = impl_RecurrentPiles.rows k F L := by
 unfold impl_RecurrentPiles.rows; (refine List.map_congr_left fun x hx => ?_); obtain ⟨b, hb⟩ := Option.isSome_iff_exists.1 (h.1 x hx); rw [hb, impl_RecurrentPiles.row_mono k F x _ hb]
theorem impl_RecurrentPiles.ok_up {k : Nat} {F : List Int} {L : List (List Int)} (h : impl_RecurrentPiles.ok k F L) : impl_RecurrentPiles.ok (k + 1) F L := by
 refine ⟨fun x hx => ?_, h.2.1, ?_⟩
 ·obtain ⟨b, hb⟩ := Option.isSome_iff_exists.1 (h.1 x hx); rw [impl_RecurrentPiles.row_mono k F x _ hb]; rfl
 ·rw [impl_RecurrentPiles.rows_up h]; exact fun x hx y hy => slices_Compare_int_int.mono x y k _ (h.2.2 x hx y hy)
def impl_RecurrentPiles.f (k : Nat) (a0 : Int) (es : List S57) (q : Int) : Option (List (List Int) × Bool) :=
 (impl_isVertex.f a0 es q).bind fun t => if t = true then (impl_GroupOrder.f k a0 es).bind fun c => if c ≤ 400 then (impl_FullPile.f k a0 es q).bind fun F => (impl_reducedAt.f k a0 es q).bind fun L => if impl_RecurrentPiles.ok k F L then some (Cf.sortL (impl_RecurrentPiles.rows k F L), true) else none else some ([], false) else some ([], false)
theorem impl_RecurrentPiles.mono : ∀ a0 a1 a2 k, LeO (impl_RecurrentPiles.f k a0 a1 a2) (impl_RecurrentPiles.f (k + 1) a0 a1 a2) := by
 intro a0 a1 a2 k; unfold impl_RecurrentPiles.f; (refine LeO.bind (LeO.refl _) fun t => LeO.ite (LeO.bind (impl_GroupOrder.mono _ _ k) fun c => LeO.ite (LeO.bind (impl_FullPile.mono _ _ _ k) fun F => LeO.bind (impl_reducedAt.mono _ _ _ k) fun L => ?_) (LeO.refl _)) (LeO.refl _)); intro r h; (split at h); (case isFalse => cases h); rename_i hc; rw [if_pos (impl_RecurrentPiles.ok_up hc), impl_RecurrentPiles.rows_up hc]; exact h
theorem impl_RecurrentPiles.calls (k : Nat) (aD : Int) (aH : Option Addr) (aG : Nat) (aA : List S57) (a1 : Int) (r1 : List (List Int)) (r2 : Bool) (w : World) (hr0_1 : Kd.C k57 w aH aA.length aA) (hc0_1 : aA.length ≤ aG) (h : impl_RecurrentPiles.f k aD aA a1 = some (r1, r2)) :
  Calls Try.prog 27 #[.agg #[.int .i64 aD, .slice aH aA.length aG], .int .i64 a1] w fun e w' => ∃ v0_ : Value, e = .returned (.tuple #[v0_, .bool r2]) ∧ Kd.S (Kd.slice 3 (Kd.int .i64)) 26 w' w.heap.size (fun _ => True) v0_ r1 ∧ Below w.heap.size w w' := by
 have hu25 := Try.underlying25; have HE := zK_ hr0_1; have HC := zK_ hc0_1; clear hr0_1 hc0_1; unfold impl_RecurrentPiles.f at h; replace h := zO_ h; obtain ⟨t, ht, h⟩ := h; have HTT := zK_ ht; clear ht
 cases t with
 | false =>
  rw [if_neg (by simp)] at h; obtain ⟨rfl, rfl⟩ := Prod.mk.inj (Option.some.inj h); clear h; go_enter Try.func27, Try.ntmps27; (go_wp2_with (first | ((with_reducible refine gate_dst (N := 2) rfl ?_); refine box_event ?hg (N := 2) ?hd (cs := #[.int .i64 aD, .slice aH aA.length aG]) (t := 25) ?hr ?_; (case hd => rfl); (case hg => rfl); (case hr => exact zz9); intro gg hg w1 hbox hb; have BG1 := zK_ hbox; have HB1 := zK_ hb; have hz0 : w1.cell? ⟨gg, 0, none⟩ = some (.int .i64 aD) := (blk_cell BG1.out 0).trans rfl; have hz1 : w1.cell? ⟨gg, 1, none⟩ = some (.slice aH aA.length aG) := (blk_cell BG1.out 1).trans rfl; clear hg hbox hb))); refine (impl_isVertex.calls aD _ _ aA a1 false _ (Kd.C_below HE.out HB1.out) HC.out HTT.out).mono ?_; rintro e w2 ⟨rfl, hb⟩; have BG2 := zK_ (blk_below BG1.out hb); have HB2 := zK_ (below_step HB1.out hb); clear hb hz0 hz1; go_wp2; (go_ret2); exact ⟨_, rfl, Kd.S_nil _ _ _ _ _, HB2.out⟩
 | true =>
  rw [if_pos rfl] at h; replace h := zO_ h; obtain ⟨c, hc, h⟩ := h; have HCT := zK_ hc; clear hc; by_cases hle : c ≤ 400; rotate_left
  ·rw [if_neg hle] at h; obtain ⟨rfl, rfl⟩ := Prod.mk.inj (Option.some.inj h); clear h; have d0 : decide (c > 400) = true := decide_eq_true (by omega); have d1 : decide (400 < c) = true := decide_eq_true (by omega); go_enter Try.func27, Try.ntmps27; (go_wp2_with (first | ((with_reducible refine gate_dst (N := 2) rfl ?_); refine box_event ?hg (N := 2) ?hd (cs := #[.int .i64 aD, .slice aH aA.length aG]) (t := 25) ?hr ?_; (case hd => rfl); (case hg => rfl); (case hr => exact zz9); intro gg hg w1 hbox hb; have BG1 := zK_ hbox; have HB1 := zK_ hb; have hz0 : w1.cell? ⟨gg, 0, none⟩ = some (.int .i64 aD) := (blk_cell BG1.out 0).trans rfl; have hz1 : w1.cell? ⟨gg, 1, none⟩ = some (.slice aH aA.length aG) := (blk_cell BG1.out 1).trans rfl; clear hg hbox hb))); refine (impl_isVertex.calls aD _ _ aA a1 true _ (Kd.C_below HE.out HB1.out) HC.out HTT.out).mono ?_; rintro e w2 ⟨rfl, hb⟩; have BG2 := zK_ (blk_below BG1.out hb); have HB2 := zK_ (below_step HB1.out hb); clear hb hz0 hz1; have hz0 : w2.cell? ⟨gg, 0, none⟩ = some (.int .i64 aD) := (blk_cell BG2.out 0).trans rfl; have hz1 : w2.cell? ⟨gg, 1, none⟩ = some (.slice aH aA.length aG) := (blk_cell BG2.out 1).trans rfl; (go_wp2_with fail); refine (impl_GroupOrder.calls k aD _ _ aA c _ (Kd.C_below HE.out HB2.out) HC.out HCT.out).mono ?_; rintro e w3 ⟨rfl, hb⟩; have BG3 := zK_ (blk_below BG2.out hb); have HB3 := zK_ (below_step HB2.out hb); clear hb hz0 hz1 BG2 BG1; go_wp2; (go_ret2); exact ⟨_, rfl, Kd.S_nil _ _ _ _ _, HB3.out⟩
  rw [if_pos hle] at h; replace h := zO_ h; obtain ⟨F, hF, h⟩ := h; replace h := zO_ h; obtain ⟨L, hL, h⟩ := h; (split at h); (case isFalse => cases h); rename_i hok; obtain ⟨rfl, rfl⟩ := Prod.mk.inj (Option.some.inj h); clear h; obtain ⟨hro, hLl, hcmp⟩ := hok; have HLL := zK_ hL; have HRO := zK_ hro; have HLn := zK_ hLl; have HCM := zK_ hcmp; have HFF := zK_ hF; (have hnb : (L.length : Int) ≤ 1000000 := by omega); have d0 : decide (c > 400) = false := decide_eq_false (by omega); have d1 : decide (400 < c) = false := decide_eq_false (by omega); clear hro hLl hcmp hL hF hle; go_enter Try.func27, Try.ntmps27; (go_wp2_with (first | ((with_reducible refine gate_dst (N := 2) rfl ?_); refine box_event ?hg (N := 2) ?hd (cs := #[.int .i64 aD, .slice aH aA.length aG]) (t := 25) ?hr ?_; (case hd => rfl); (case hg => rfl); (case hr => exact zz9); intro gg hg w1 hbox hb; have BG1 := zK_ hbox; have HB1 := zK_ hb; have hz0 : w1.cell? ⟨gg, 0, none⟩ = some (.int .i64 aD) := (blk_cell BG1.out 0).trans rfl; have hz1 : w1.cell? ⟨gg, 1, none⟩ = some (.slice aH aA.length aG) := (blk_cell BG1.out 1).trans rfl; clear hg hbox hb))); refine (impl_isVertex.calls aD _ _ aA a1 true _ (Kd.C_below HE.out HB1.out) HC.out HTT.out).mono ?_; rintro e w2 ⟨rfl, hb⟩; have BG2 := zK_ (blk_below BG1.out hb); have HB2 := zK_ (below_step HB1.out hb); clear hb hz0 hz1; have hz0 : w2.cell? ⟨gg, 0, none⟩ = some (.int .i64 aD) := (blk_cell BG2.out 0).trans rfl; have hz1 : w2.cell? ⟨gg, 1, none⟩ = some (.slice aH aA.length aG) := (blk_cell BG2.out 1).trans rfl; (go_wp2_with fail); refine (impl_GroupOrder.calls k aD _ _ aA c _ (Kd.C_below HE.out HB2.out) HC.out HCT.out).mono ?_; rintro e w3 ⟨rfl, hb⟩; have BG3 := zK_ (blk_below BG2.out hb); have HB3 := zK_ (below_step HB2.out hb); clear hb hz0 hz1 BG2 BG1; have hz0 : w3.cell? ⟨gg, 0, none⟩ = some (.int .i64 aD) := (blk_cell BG3.out 0).trans rfl; have hz1 : w3.cell? ⟨gg, 1, none⟩ = some (.slice aH aA.length aG) := (blk_cell BG3.out 1).trans rfl; (go_wp2_with fail); refine (impl_FullPile.calls k aD _ _ aA a1 F _ (Kd.C_below HE.out HB3.out) HC.out HFF.out).mono ?_; rintro e w4 ⟨v4, rfl, hF, hb⟩; obtain ⟨AF, cF, eF⟩ := Kd.R_slice hF; subst eF; have HRF := zK_ (Kd.R_reads' hF); have BG4 := zK_ (blk_below BG3.out hb); have HB4 := zK_ (below_step HB3.out hb); clear hb hF hz0 hz1 BG3; have hz0 : w4.cell? ⟨gg, 0, none⟩ = some (.int .i64 aD) := (blk_cell BG4.out 0).trans rfl; have hz1 : w4.cell? ⟨gg, 1, none⟩ = some (.slice aH aA.length aG) := (blk_cell BG4.out 1).trans rfl; (go_wp2_with fail); refine (impl_reducedAt.calls k aD _ _ aA a1 L _ (Kd.C_below HE.out HB4.out) HC.out HLL.out).mono ?_; rintro e w5 ⟨v5, rfl, hS, hb⟩; have HB5 := zK_ (below_step HB4.out hb); obtain ⟨A, cA, eA⟩ := Kd.S_slice hS; subst eA; have HS5 := zK_ hS; have HR5 := zK_ (Kd.C_below HRF.out.2.2 hb); clear hS hb hz0 hz1 BG4; (try go_wp2); (go_loopw [7, 26] (fun v7 v26 wr => ∃ i : Nat, v26 = .int .i64 (i : Int) ∧ Aside0 (i ≤ L.length) ∧ Aside0 (Below w5.heap.size w5 wr) ∧ Aside0 (Kd.S (Kd.slice 3 (Kd.int .i64)) 26 wr w5.heap.size (fun _ => True) v7 (impl_RecurrentPiles.rows k F (L.take i)))) (fun _ v _ => L.length - (intOf v).toNat)); case atStart => exact ⟨0, rfl, ⟨Nat.zero_le _⟩, ⟨Below.refl _ _⟩, ⟨Kd.S_nil _ _ _ _ _⟩⟩
  case round =>
   obtain ⟨i, rfl, HI, HBr, HSr⟩ := hrel; by_cases hlt : i < L.length; rotate_left
   ·have c0_ : decide ((i : Int) < (L.length : Int)) = false := decide_eq_false (by omega); have c1_ : decide (i < L.length) = false := decide_eq_false hlt; (have hi : i = L.length := by have := HI.out; omega); subst hi; clear hlt; have hS := HSr.out; rw [List.take_length] at hS; have HS8 := zK_ hS; clear hS; (go_wp2_with fail); refine (slices_SortFunc_int_int.calls k (impl_RecurrentPiles.rows k F L) w5.heap.size (fun _ => True) _ _ HS8.out (by unfold impl_RecurrentPiles.rows; rw [List.length_map]; have := HLn.out; omega) HCM.out).mono ?_; rintro e w9 ⟨rfl, hS9, hb⟩; have HS9 := zK_ hS9; have HB9 := zK_ (HBr.out.trans hb); clear hS9 hb; go_wp2; (go_ret2); exact ⟨_, rfl, Kd.S_mono (Kd.S_lower HS9.out HB5.out.size) (fun _ _ => trivial), below_step HB5.out HB9.out⟩
   have c0_ : decide ((i : Int) < (L.length : Int)) = true := decide_eq_true (by omega); have c1_ : decide (i < L.length) = true := decide_eq_true hlt; (have p1 : (0 : Int) ≤ (i : Int) := by omega); (have p2 : (i : Int) < (L.length : Int) := by omega); (have hib : (i : Int) ≤ 1000000 := by omega); obtain ⟨x, hxi⟩ : ∃ x, L[i]? = some x := ⟨_, List.getElem?_eq_getElem hlt⟩; (have hx : rd_L3 L (i : Int) = x := by unfold rd_L3; rw [Int.toNat_natCast, List.getD_eq_getElem?_getD, hxi]; rfl); have hLr := Kd.S_below (Kd.S_bound HS5.out) HBr.out; obtain ⟨gL, _, _, eg, _, _, _⟩ := at_L3 (Kd.S_reads' hLr).2.2 (i : Int) p1 p2; subst eg; obtain ⟨cc, _, hM, hcell⟩ := Kd.S_get hLr ([] : List Int) (i : Int) p1 p2; obtain ⟨vx, hvx, hRx⟩ := hM; subst hvx; replace hcell := hcell 0 vx rfl; rw [show (L.getD ((i : Int)).toNat []) = x from hx] at hRx; obtain ⟨Ai, ci, ei⟩ := Kd.R_slice hRx; subst ei; rw [Int.toNat_natCast, show i * (Kd.slice 3 (Kd.int .i64)).sz + 0 = i from Nat.mul_one i] at hcell; have HRi := zK_ (Kd.R_reads' hRx); obtain ⟨row, hrow⟩ := Option.isSome_iff_exists.1 (HRO.out x (List.mem_of_getElem? hxi)); have hrow2 := hrow; unfold impl_RecurrentPiles.row at hrow2; obtain ⟨ne, hne, hpl⟩ := zO_ hrow2; have HNE := zK_ hne; have HPL := zK_ hpl; have HLT := zK_ hlt; have HXI := zK_ hxi; have HROW := zK_ hrow; have HOL := zK_ (show (impl_RecurrentPiles.rows k F (L.take i)).length ≤ 1000000 from by unfold impl_RecurrentPiles.rows; rw [List.length_map, List.length_take]; have := HLn.out; omega); clear hxi hlt hx hRx hrow hrow2 hne hpl hLr; (go_wp2_with fail); refine (impl_NegateDivisor.calls k _ _ x ne _ HRi.out.2.2 HRi.out.2.1 HNE.out).mono ?_; rintro e w6 ⟨v6, rfl, hN, hb6⟩; obtain ⟨AN, cN, eN⟩ := Kd.R_slice hN; subst eN; have HRN := zK_ (Kd.R_reads' hN); have HB6 := zK_ hb6; clear hN hb6; (go_wp2_with fail); refine (impl_plus.calls k _ _ F _ _ ne row _ (Kd.C_below (Kd.C_below HR5.out HBr.out) HB6.out) HRF.out.2.1 HRN.out.2.2 HRN.out.2.1 HPL.out).mono ?_; rintro e w7 ⟨v7, rfl, hP, hb7⟩; obtain ⟨AP, cP, eP⟩ := Kd.R_slice hP; subst eP; have t7 := zK_ (Kd.R_mono (Kd.R_bound hP) (ok' := fun k_ => wr.heap.size ≤ k_) fun k_ hk => by have := hk.2.1; have := HB6.out.size; omega); have HB7 := zK_ (below_step HB6.out hb7); clear hP hb7; (go_wp2_with (first | ((with_reducible refine gate_builtin (b := .append) (xs := #[.tmp 30, .tmp 35]) rfl ?_); at_builtin; refine Kd.S_append (Kd.slice 3 (Kd.int .i64)) (w0 := w5) w5.heap.size rfl (.tmp 30) (.tmp 35) 34 26 (.slice none 0 0) 24 rfl Try.underlying34 info26 rfl (by decide) (by omega) u7 (impl_RecurrentPiles.rows k F (L.take i)) row [.slice AP row.length cP] (fun _ => True) (fun k_ => wr.heap.size ≤ k_) rfl rfl (Kd.M_row (Kd.R_lower t7.out (Nat.le_trans HBr.out.size HB6.out.size))) (fun k_ hk => ⟨trivial, fun e => by have := Kd.S_lt HSr.out k_ e.symm; omega⟩) (fun k_ hk => trivial) (Kd.S_mono (Kd.S_below (Kd.S_bound HSr.out) HB7.out) fun k_ hk => ⟨trivial, fun h => by have := hk.2.2.1; omega⟩) (below_step HBr.out HB7.out) (below_size (below_step HBr.out HB7.out)) (by have := HOL.out; omega) ?_; intro vE wE ho hb hg hat; have HOE := zK_ ho; have HBE := zK_ hb; clear ho hb hg hat))); go_roundw
   case rel =>
    refine ⟨i + 1, by go_num, ⟨HLT.out⟩, HBE, ⟨?_⟩⟩; unfold impl_RecurrentPiles.rows; rw [List.take_add_one, HXI.out, List.map_append, show (Option.toList (some x)).map (fun x => (impl_RecurrentPiles.row k F x).getD []) = [row] from by show [(impl_RecurrentPiles.row k F x).getD []] = _; rw [HROW.out]; rfl]; exact HOE.out
   case measure =>
    have := HLT.out; (simp [intOf]); omega
def laws_FnExactRecurrentPiles.T10 : Bool × List (List Nat × List Nat) := (true, [([], []), ([], []), ([1], [1]), ([0, 2, 2], [0, 2]), ([3], [3])])
def laws_FnExactRecurrentPiles.B10 : List Nat := [0, 0, 2, 7, 15]
theorem laws_FnExactRecurrentPiles.tab10 : rtab .any (opsOf Try.f6 10) = laws_FnExactRecurrentPiles.T10 := by kernel_rfl
theorem laws_FnExactRecurrentPiles.bits10 : waitsOk laws_FnExactRecurrentPiles.T10.2 laws_FnExactRecurrentPiles.B10 = true := by kernel_rfl
def laws_FnExactRecurrentPiles.tail2 (k : Nat) (a0 : Int) (l0 : List S101) (a1 : Int) (W : List (List Int) × Bool) (m : List (List Int) × Int) : Option Bool :=
 (laws_heldIntSS.f k m.1 1).bind fun q => if q < 0 then none else if q = m.2 then (laws_toGraph.f k a0 l0).bind fun a3 => (impl_RecurrentPiles.f k a3.1 a3.2 a1).bind fun H => (laws_eqIntSS.f k H.1 W.1).bind fun e4 => if e4 = true then (if H.2 = W.2 then (laws_heldIntSS.f k m.1 1).bind fun q2 => (if q2 < 0 then none else if q2 = m.2 then some true else none) else none) else none else none
def laws_FnExactRecurrentPiles.tail (k : Nat) (a0 : Int) (l0 : List S101) (a1 : Int) (W : List (List Int) × Bool) (x0 : Int × List S57) (G : List (List Int) × Bool) : Option Bool :=
 (laws_eqIntSS.f k G.1 W.1).bind fun e1 => if e1 = true then (if G.2 = W.2 then (laws_toGraph.f k a0 l0).bind fun a2 => (laws_eqGraph.f k x0.1 x0.2 a2.1 a2.2).bind fun e2 => (if e2 = true then (laws_markGraph.f k x0.1 x0.2 1).bind fun km => (if km.1 < 0 then none else (laws_eqIntSS.f k G.1 W.1).bind fun e3 => (if e3 = true then (laws_markIntSS.fR k G.1 1).bind fun m => laws_FnExactRecurrentPiles.tail2 k a0 l0 a1 W m else none)) else none) else none) else none
def laws_FnExactRecurrentPiles.f (k : Nat) (a0 : Int) (l0 : List S101) (a1 : Int) : Option Bool :=
 (laws_szGraph.f a0 l0 1048576).bind fun t => if t < 0 then some true else (laws_toGraph.f k a0 l0).bind fun a => (spec_RecurrentPiles.f k a.1 a.2 a1).bind fun W => (laws_toGraph.f k a0 l0).bind fun x0 => (impl_RecurrentPiles.f k x0.1 x0.2 a1).bind fun G => laws_FnExactRecurrentPiles.tail k a0 l0 a1 W x0 G
theorem laws_FnExactRecurrentPiles.mono : ∀ a0 a1 a2 k, LeO (laws_FnExactRecurrentPiles.f k a0 a1 a2) (laws_FnExactRecurrentPiles.f (k + 1) a0 a1 a2) := by
 intro a0 a1 a2 k; unfold laws_FnExactRecurrentPiles.f laws_FnExactRecurrentPiles.tail laws_FnExactRecurrentPiles.tail2; repeat (first | exact LeO.refl _ | refine LeO.bind (LeO.refl (laws_szGraph.f _ _ _)) fun _ => ?_ | refine LeO.bind (laws_toGraph.mono _ _ k) fun _ => ?_ | refine LeO.bind (spec_RecurrentPiles.mono _ _ _ k) fun _ => ?_ | refine LeO.bind (impl_RecurrentPiles.mono _ _ _ k) fun _ => ?_ | refine LeO.bind (laws_eqIntSS.mono _ _ k) fun _ => ?_ | refine LeO.bind (laws_eqGraph.mono _ _ _ _ k) fun _ => ?_ | refine LeO.bind (laws_markGraph.mono _ _ _ k) fun _ => ?_ | refine LeO.bind (laws_markIntSS.monoR _ _ k) fun _ => ?_ | refine LeO.bind (laws_heldIntSS.mono _ _ k) fun _ => ?_ | refine LeO.ite ?_ ?_)
theorem laws_FnExactRecurrentPiles.calls (k : Nat) (aD : Int) (aH : Option Addr) (aG : Nat) (aA : List S101) (a1 : Int) (r : Bool) (w : World) (hr0_1 : Kd.C k101 w aH aA.length aA) (hc0_1 : aA.length ≤ aG) (h : laws_FnExactRecurrentPiles.f k aD aA a1 = some r) :
  Calls Try.prog 6 #[.agg #[.int .i64 aD, .slice aH aA.length aG], .int .i64 a1] w fun e w' => e = .returned (.bool r) ∧ Below w.heap.size w w' := by
 have hu1 := Try.underlying41; have hu2 := Try.underlying25; have HR := zK_ hr0_1; have HC := zK_ hc0_1; clear hr0_1 hc0_1; unfold laws_FnExactRecurrentPiles.f at h; replace h := zO_ h; obtain ⟨t, ht, h⟩ := h; have HT := zK_ ht; clear ht; by_cases c1 : t < 0
 ·rw [if_pos c1] at h; obtain rfl := Option.some.inj h; have d1 : decide (t < 0) = true := decide_eq_true c1; go_enter Try.func6, Try.ntmps6; (go_wp2_with (first | ((with_reducible refine gate_dst (N := 2) rfl ?_); refine box_event ?hg (N := 2) ?hd (cs := #[.int .i64 aD, .slice aH aA.length aG]) (t := 41) ?hr ?_; (case hd => rfl); (case hg => rfl); (case hr => exact zz9); intro ga hg w1 hbox hb; have BA1 := zK_ hbox; have HGA := zK_ hg; have HB1 := zK_ hb; have hz0 : w1.cell? ⟨ga, 0, none⟩ = some (.int .i64 aD) := (blk_cell BA1.out 0).trans rfl; have hz1 : w1.cell? ⟨ga, 1, none⟩ = some (.slice aH aA.length aG) := (blk_cell BA1.out 1).trans rfl; clear hg hbox hb))); refine (laws_szGraph.calls aD _ _ aA 1048576 t _ (Kd.C_below HR.out HB1.out) HC.out HT.out).mono ?_; rintro e w2 ⟨rfl, hb⟩; have BA2 := zK_ (blk_below BA1.out hb); have HB2 := zK_ (below_step HB1.out hb); clear hb hz0 hz1 BA1; go_wp2; go_ret; exact ⟨rfl, HB2.out⟩
 rw [if_neg c1] at h; have d1 : decide (t < 0) = false := decide_eq_false c1; clear c1; replace h := zO_ h; obtain ⟨⟨an, ae⟩, h_a, h⟩ := h; replace h := zO_ h; obtain ⟨⟨W, wb⟩, h_W, h⟩ := h; replace h := zO_ h; obtain ⟨⟨xn, xe⟩, h_x, h⟩ := h; replace h := zO_ h; obtain ⟨⟨G, gb⟩, h_G, h⟩ := h; unfold laws_FnExactRecurrentPiles.tail at h; simp only at h; replace h := zO_ h; obtain ⟨e1, h_e1, h⟩ := h; (split at h); (case isFalse => cases h); rename_i t1; subst t1; (split at h); (case isFalse => cases h); rename_i g1; replace h := zO_ h; obtain ⟨⟨bn, be⟩, h_b, h⟩ := h; replace h := zO_ h; obtain ⟨e2, h_e2, h⟩ := h; (split at h); (case isFalse => cases h); rename_i t1; subst t1; replace h := zO_ h; obtain ⟨⟨km, ke⟩, h_k, h⟩ := h; (split at h); (case isTrue => cases h); rename_i n1; replace h := zO_ h; obtain ⟨e3, h_e3, h⟩ := h; (split at h); (case isFalse => cases h); rename_i t1; subst t1; replace h := zO_ h; obtain ⟨⟨M, m⟩, h_m, h⟩ := h; unfold laws_FnExactRecurrentPiles.tail2 at h; simp only at h; replace h := zO_ h; obtain ⟨q, h_q, h⟩ := h; (split at h); (case isTrue => cases h); rename_i n2; (split at h); (case isFalse => cases h); rename_i t2; replace h := zO_ h; obtain ⟨⟨cn, ce⟩, h_c, h⟩ := h; replace h := zO_ h; obtain ⟨⟨H, hb2⟩, h_H, h⟩ := h; replace h := zO_ h; obtain ⟨e4, h_e4, h⟩ := h; (split at h); (case isFalse => cases h); rename_i t1; subst t1; (split at h); (case isFalse => cases h); rename_i g2; replace h := zO_ h; obtain ⟨q2, h_q2, h⟩ := h; (split at h); (case isTrue => cases h); rename_i n3; (split at h); (case isFalse => cases h); rename_i t3; obtain rfl := Option.some.inj h; clear h; simp only at h_a h_W h_x h_G h_e1 h_b h_e2 h_k h_e3 h_m h_q h_c h_H h_e4 h_q2 g1 g2 n1 t2 t3; subst g1; subst g2; have Ha_ := zK_ h_a; have HW_ := zK_ h_W; have Hx_ := zK_ h_x; have HG_ := zK_ h_G; have He1_ := zK_ h_e1; have Hb_ := zK_ h_b; have He2_ := zK_ h_e2; have Hk_ := zK_ h_k; have He3_ := zK_ h_e3; have Hm_ := zK_ h_m; have Hq_ := zK_ h_q; have Hc_ := zK_ h_c; have HH_ := zK_ h_H; have He4_ := zK_ h_e4; have Hq2_ := zK_ h_q2; clear h_a h_W h_x h_G h_e1 h_b h_e2 h_k h_e3 h_m h_q h_c h_H h_e4 h_q2; have d2 : decide (km < 0) = false := decide_eq_false n1; have d3 : decide (q < 0) = false := decide_eq_false n2; have d4 : (q != m) = false := bne_eq_false_iff_eq.mpr t2; have d5 : decide (q2 < 0) = false := decide_eq_false n3; have d6 : (q2 != m) = false := bne_eq_false_iff_eq.mpr t3; clear n1 n2 n3 t2 t3; go_enter Try.func6, Try.ntmps6; (go_wp2_with (first | ((with_reducible refine gate_dst (N := 2) rfl ?_); refine box_event ?hg (N := 2) ?hd (cs := #[.int .i64 aD, .slice aH aA.length aG]) (t := 41) ?hr ?_; (case hd => rfl); (case hg => rfl); (case hr => exact zz9); intro ga hg w1 hbox hb; have BA1 := zK_ hbox; have HGA := zK_ hg; have HB1 := zK_ hb; have hz0 : w1.cell? ⟨ga, 0, none⟩ = some (.int .i64 aD) := (blk_cell BA1.out 0).trans rfl; have hz1 : w1.cell? ⟨ga, 1, none⟩ = some (.slice aH aA.length aG) := (blk_cell BA1.out 1).trans rfl; clear hg hbox hb))); refine (laws_szGraph.calls aD _ _ aA 1048576 t _ (Kd.C_below HR.out HB1.out) HC.out HT.out).mono ?_; rintro e w2 ⟨rfl, hb⟩; have BA2 := zK_ (blk_below BA1.out hb); have HB2 := zK_ (below_step HB1.out hb); clear hb hz0 hz1 BA1; have hz0 : w2.cell? ⟨ga, 0, none⟩ = some (.int .i64 aD) := (blk_cell BA2.out 0).trans rfl; have hz1 : w2.cell? ⟨ga, 1, none⟩ = some (.slice aH aA.length aG) := (blk_cell BA2.out 1).trans rfl; (go_wp2_with fail); refine (laws_toGraph.calls k aD _ _ aA an ae _ (Kd.C_below HR.out HB2.out) HC.out Ha_.out).mono ?_; rintro e w3 ⟨v3, rfl, hR, hb⟩; obtain ⟨Aa, ca, ea⟩ := Kd.R_slice hR; subst ea; have HA3 := zK_ (Kd.R_reads' hR); have BA3 := zK_ (blk_below BA2.out hb); have HB3 := zK_ (below_step HB2.out hb); clear hR hb hz0 hz1 BA2; (go_wp2_with fail); refine (spec_RecurrentPiles.calls k an _ _ ae a1 W _ _ HA3.out.2.2 HA3.out.2.1 HW_.out).mono ?_; rintro e w4 ⟨v4, rfl, hN, hb⟩; obtain ⟨Aw, cw, ew⟩ := Kd.S_slice hN; subst ew; have HW4 := zK_ (Kd.N_mono (Kd.N_bound (Kd.S_N hN)) (ok' := fun k_ => k_ < w4.heap.size) fun k_ hk => hk.2); have HWB := zK_ hb.size; have BA4 := zK_ (blk_below BA3.out hb); have HB4 := zK_ (below_step HB3.out hb); have HGA4 := zK_ (show ga < w4.heap.size from blk_lt BA4.out); clear hN hb BA3 HA3; have hz0 : w4.cell? ⟨ga, 0, none⟩ = some (.int .i64 aD) := (blk_cell BA4.out 0).trans rfl; have hz1 : w4.cell? ⟨ga, 1, none⟩ = some (.slice aH aA.length aG) := (blk_cell BA4.out 1).trans rfl; (go_wp2_with fail); refine (laws_toGraph.calls k aD _ _ aA xn xe _ (Kd.C_below HR.out HB4.out) HC.out Hx_.out).mono ?_; rintro e w5 ⟨v5, rfl, hR, hb⟩; obtain ⟨Ax, cx, ex⟩ := Kd.R_slice hR; subst ex; have HX5 := zK_ (Kd.R_mono (Kd.R_bound hR) (ok' := fun k_ => w4.heap.size ≤ k_ ∧ k_ < w5.heap.size) fun k_ hk => ⟨hk.2.1, hk.2.2.1⟩); have HW5 := zK_ (Kd.N_below HW4.out hb); have HZ5 := zK_ hb.size; have BA5 := zK_ (blk_below BA4.out hb); have HB5 := zK_ (below_step HB4.out hb); clear hR hb hz0 hz1 BA4 HW4; (go_wp2_with (first | ((with_reducible refine gate_dst (N := 8) rfl ?_); refine box_event ?hg (N := 8) ?hd (cs := #[.int .i64 0, .slice none 0 0]) (t := 25) ?hr ?_; (case hd => rfl); (case hg => rfl); (case hr => exact zz9); intro gx hg w6 hbox hb; have HGX := zK_ hg; have BX6 := zK_ hbox; have BA6 := zK_ (blk_below BA5.out hb); have HB6 := zK_ (below_step HB5.out hb); have HX6 := zK_ (Kd.R_below HX5.out hb); have HW6 := zK_ (Kd.N_below HW5.out hb); have hy0 : w6.cell? ⟨gx, 0, none⟩ = some (.int .i64 0) := (blk_cell BX6.out 0).trans rfl; have hy1 : w6.cell? ⟨gx, 1, none⟩ = some (.slice none 0 0) := (blk_cell BX6.out 1).trans rfl; have hf0 := blk_frozen BX6.out 0; have hf1 := blk_frozen BX6.out 1; clear hg hbox hb BA5 HX5 HW5))); (have hbb : ∀ b : Bool, (b != b) = false := by intro b; cases b <;> rfl); have HGAX := zK_ (show ga < w4.heap.size ∧ w4.heap.size ≤ w5.heap.size ∧ gx = w5.heap.size ∧ w.heap.size ≤ gx from ⟨by exact HGA4.out, HZ5.out, HGX.out, by have := HGX.out; have := HB5.out.size; omega⟩); generalize hw : ((w6.setCell ⟨gx, 0, none⟩ (.int .i64 xn)).setCell ⟨gx, 1, none⟩ (.slice Ax xe.length cx)) = w7; have BX7 := zK_ (show w7.heap[gx]? = some (.cells #[.int .i64 xn, .slice Ax xe.length cx] 25 (0, 0)) from by rw [← hw]; exact blk_set (blk_set BX6.out 0 _) 1 _); have BA7 := zK_ (show w7.heap[ga]? = some (.cells #[.int .i64 aD, .slice aH aA.length aG] 41 (0, 0)) from by rw [← hw]; exact blk_far (blk_far BA6.out (by have := HGAX.out; show ga ≠ gx; omega) _) (by have := HGAX.out; show ga ≠ gx; omega) _); have HB7 := zK_ (show Below w.heap.size w w7 from by rw [← hw]; exact below_set (below_set HB6.out HGAX.out.2.2.2) HGAX.out.2.2.2); have HX7 := zK_ (show Kd.R k57 57 w7 w4.heap.size (fun k_ => w4.heap.size ≤ k_ ∧ k_ < w5.heap.size) (.slice Ax xe.length cx) xe from by rw [← hw]; exact Kd.R_far (p := ⟨gx, 1, none⟩) (Kd.R_far (p := ⟨gx, 0, none⟩) HX6.out (fun k_ hk => by have h2 := hk.2; have := HGAX.out; show k_ ≠ gx; omega) _) (fun k_ hk => by have h2 := hk.2; have := HGAX.out; show k_ ≠ gx; omega) _); have HW7 := zK_ (show Kd.N (Kd.slice 3 (Kd.int .i64)) 26 w7 w3.heap.size (fun k_ => k_ < w4.heap.size) (.slice Aw W.length cw) W from by rw [← hw]; exact Kd.N_far (p := ⟨gx, 1, none⟩) (Kd.N_far (p := ⟨gx, 0, none⟩) HW6.out (fun k_ hk => by have h2 : k_ < w4.heap.size := hk; have := HGAX.out; show k_ ≠ gx; omega) _) (fun k_ hk => by have h2 : k_ < w4.heap.size := hk; have := HGAX.out; show k_ ≠ gx; omega) _); have HZ7 := zK_ (show w5.heap.size < w7.heap.size from by have := blk_lt BX7.out; have := HGAX.out; omega); clear hw BX6 BA6 HB6 HX6 HW6 hy0 hy1 hf0 hf1; refine (impl_RecurrentPiles.calls k xn _ _ xe a1 G _ _ (Kd.R_reads' HX7.out).2.2 (Kd.R_reads' HX7.out).2.1 HG_.out).mono ?_; rintro e w8 ⟨v8, rfl, hS, hb⟩; obtain ⟨Ag, cg, eg⟩ := Kd.S_slice hS; subst eg; have HG8 := zK_ (Kd.S_mono (Kd.S_bound hS) (ok' := fun k_ => w7.heap.size ≤ k_ ∧ k_ < w8.heap.size) fun k_ hk => ⟨hk.2.1, hk.2.2.1⟩); have BX8 := zK_ (blk_below BX7.out hb); have BA8 := zK_ (blk_below BA7.out hb); have HX8 := zK_ (Kd.R_below HX7.out hb); have HW8 := zK_ (Kd.N_below HW7.out hb); have HB8 := zK_ (below_step HB7.out hb); clear hS hb BX7 BA7 HX7 HW7; (go_wp2_with fail); refine (laws_eqIntSS.calls k _ _ G _ _ W true _ (Kd.S_reads' HG8.out).2.2 (Kd.S_reads' HG8.out).2.1 (Kd.N_reads' HW8.out).2.2 (Kd.N_reads' HW8.out).2.1 He1_.out).mono ?_; rintro e w9 ⟨rfl, hd⟩; have hb := Drawn0.below hd; have BX9 := zK_ (blk_below BX8.out hb); have BA9 := zK_ (blk_below BA8.out hb); have HX9 := zK_ (Kd.R_below HX8.out hb); have HW9 := zK_ (Kd.N_below HW8.out hb); have HG9 := zK_ (Kd.S_below HG8.out hb); have HB9 := zK_ (below_step HB8.out hb); clear hd hb BX8 BA8 HX8 HW8 HG8; (try go_wp2); refine start_ (n := 5) (S := fun w' => w'.cell? ⟨gx, 0, none⟩ = some (.int .i64 xn) ∧ w'.cell? ⟨gx, 1, none⟩ = some (.slice Ax xe.length cx) ∧ w'.cell? ⟨ga, 0, none⟩ = some (.int .i64 aD) ∧ w'.cell? ⟨ga, 1, none⟩ = some (.slice aH aA.length aG)) (ds := []) (zM 5 0) (by kernel_rfl) rfl rfl ⟨(blk_cell BX9.out 0).trans rfl, (blk_cell BX9.out 1).trans rfl, (blk_cell BA9.out 0).trans rfl, (blk_cell BA9.out 1).trans rfl⟩ (fun hHeld => ?_); refine with_tabW laws_FnExactRecurrentPiles.tab10 laws_FnExactRecurrentPiles.bits10 (fun HT_ HW_ => ?_); have hb : Below w9.heap.size w9 w9.drew := below_drew (Below.refl _ _); have BX10 := zK_ (blk_below BX9.out hb); have BA10 := zK_ (blk_below BA9.out hb); have HX10 := zK_ (Kd.R_below HX9.out hb); have HW10 := zK_ (Kd.N_below HW9.out hb); have HG10 := zK_ (Kd.S_below HG9.out hb); have HB10 := zK_ (below_step HB9.out hb); clear hb BX9 BA9 HX9 HW9 HG9; generalize w9.drew = w10 at BX10 BA10 HX10 HW10 HG10 HB10 hHeld ⊢; refine take_ (i := 0) (N := some 45) (v := ?_) (a' := ?_) (zM 5 1) rfl rfl (take_ofW HT_.out HW_.out (by kernel_rfl)) (fun _ _ _ h => h) (Or.inl ⟨by rfl, ?_⟩) hHeld ?_ ?_; rotate_left
 ·rintro w' ⟨s0, s1, s2, s3⟩; exact zzT
 rotate_left
 ·exact zzS
 refine take_ (i := 1) (N := some 46) (v := ?_) (a' := ?_) (zM 5 3) rfl rfl (take_ofW HT_.out HW_.out (by kernel_rfl)) (fun _ _ _ h => h) (Or.inl ⟨by rfl, ?_⟩) hHeld ?_ ?_; rotate_left
 ·rintro w' ⟨s0, s1, s2, s3⟩; exact zzT
 rotate_left
 ·exact zzS
 refine one_ (i := 2) (N := some 47) (zM 5 7) rfl rfl (one_of HT_.out (by kernel_rfl)) (by decide) (fun K hK => ?_); refine goes_ Try.func18 (by kernel_rfl) rfl #[.agg #[.int .i64 aD, .slice aH aA.length aG]] (by rfl) rfl rfl zz28 ?_; refine (laws_toGraph.calls k aD _ _ aA bn be _ (Kd.C_below HR.out HB10.out) HC.out Hb_.out).mono ?_; rintro e w11 ⟨v11, rfl, hR, hb⟩; obtain ⟨Ab, cb, eb⟩ := Kd.R_slice hR; subst eb; have HBb := zK_ (Kd.R_reads' hR); have BX11 := zK_ (blk_below BX10.out hb); have BA11 := zK_ (blk_below BA10.out hb); have HX11 := zK_ (Kd.R_below HX10.out hb); have HW11 := zK_ (Kd.N_below HW10.out hb); have HG11 := zK_ (Kd.S_below HG10.out hb); have HB11 := zK_ (below_step HB10.out hb); clear hR hb BX10 BA10 HX10 HW10 HG10; refine ⟨_, rfl, ?_⟩; refine hK.out _ _ ⟨(blk_cell BX11.out 0).trans rfl, (blk_cell BX11.out 1).trans rfl, (blk_cell BA11.out 0).trans rfl, (blk_cell BA11.out 1).trans rfl⟩ (fun hHeld => ?_); clear hK K; refine norm_ (a' := ?_) ?_ ?_; rotate_left
 ·show Act.put _ (some 47) _ = _; exact zzS
 refine one_ (i := 3) (N := some 48) (zM 5 15) rfl rfl (one_of HT_.out (by kernel_rfl)) (by decide) (fun K hK => ?_); refine goes_ Try.func20 (by kernel_rfl) rfl #[.agg #[.int .i64 xn, .slice Ax xe.length cx], .agg #[.int .i64 bn, .slice Ab be.length cb]] (by rfl) rfl rfl zz28 ?_; refine (laws_eqGraph.calls k xn _ _ xe bn _ _ be true _ (Kd.R_reads' HX11.out).2.2 (Kd.R_reads' HX11.out).2.1 HBb.out.2.2 HBb.out.2.1 He2_.out).mono ?_; rintro e w12 ⟨rfl, hb⟩; have BX12 := zK_ (blk_below BX11.out hb); have BA12 := zK_ (blk_below BA11.out hb); have HX12 := zK_ (Kd.R_below HX11.out hb); have HW12 := zK_ (Kd.N_below HW11.out hb); have HG12 := zK_ (Kd.S_below HG11.out hb); have HB12 := zK_ (below_step HB11.out hb); clear hb BX11 BA11 HX11 HW11 HG11 HBb; refine ⟨_, rfl, ?_⟩; refine hK.out _ _ ⟨(blk_cell BX12.out 0).trans rfl, (blk_cell BX12.out 1).trans rfl, (blk_cell BA12.out 0).trans rfl, (blk_cell BA12.out 1).trans rfl⟩ (fun hHeld => ?_); clear hK K; refine norm_ (a' := ?_) ?_ ?_; rotate_left
 ·show Act.put _ (some 48) _ = _; exact zzS
 refine zQ 4 49 (zM 5 31) ?_
 refine done_ (done_of HT_.out (by kernel_rfl)) ?_; have hx0 : w12.cell? ⟨gx, 0, none⟩ = some (.int .i64 xn) := (blk_cell BX12.out 0).trans rfl; have hx1 : w12.cell? ⟨gx, 1, none⟩ = some (.slice Ax xe.length cx) := (blk_cell BX12.out 1).trans rfl; (go_wp2_with fail); refine (laws_markGraph.calls k xn (fun k_ => w4.heap.size ≤ k_ ∧ k_ < w5.heap.size) _ xe 1 km ke w _ HB12.out (Kd.R_lower HX12.out HB4.out.size) Hk_.out).mono ?_; rintro e w13 ⟨rfl, _, hb, hk⟩; have HW13 := zK_ (Kd.N_step HW12.out fun k_ ho hlt => hk.2 k_ hlt fun h => by have h2 : k_ < w4.heap.size := ho; have := h.1; omega); have HG13 := zK_ (Kd.S_step HG12.out fun k_ ho hlt => hk.2 k_ hlt fun h => by have := ho.1; have := h.2; have := HZ7.out; omega); have BA13 := zK_ (blk_kept BA12.out hk fun h => by have := h.1; have := HGAX.out.1; omega); have HB13 := zK_ hb; clear hb hk hx0 hx1 BX12 BA12 HX12 HW12 HG12; (go_wp2_with fail); refine (laws_eqIntSS.calls k _ _ G _ _ W true _ (Kd.S_reads' HG13.out).2.2 (Kd.S_reads' HG13.out).2.1 (Kd.N_reads' HW13.out).2.2 (Kd.N_reads' HW13.out).2.1 He3_.out).mono ?_; rintro e w14 ⟨rfl, hd⟩; have hb := Drawn0.below hd; have BA14 := zK_ (blk_below BA13.out hb); have HW14 := zK_ (Kd.N_below HW13.out hb); have HG14 := zK_ (Kd.S_below HG13.out hb); have HB14 := zK_ (below_step HB13.out hb); clear hd hb BA13 HW13 HG13; (go_wp2_with fail); refine (laws_markIntSS.callsR k (fun k_ => w7.heap.size ≤ k_ ∧ k_ < w8.heap.size) _ G 1 M m w _ HB14.out (Kd.S_lower HG14.out HB7.out.size) Hm_.out).mono ?_; rintro e w15 ⟨rfl, hb, hk, hS⟩; obtain ⟨hl, _, _⟩ := Kd.S_reads' hS; rw [hl] at hS; have HM15 := zK_ hS; have HW15 := zK_ (Kd.N_step HW14.out fun k_ ho hlt => hk.2 k_ hlt fun h => by have h2 : k_ < w4.heap.size := ho; have := h.1; have := HZ7.out; have := HGAX.out; omega); have BA15 := zK_ (blk_kept BA14.out hk fun h => by have := h.1; have := HGAX.out; have := HZ7.out; omega); have HB15 := zK_ hb; clear hb hk hS BA14 HW14 HG14; rw [hl]; clear hl; (go_wp2_with fail); refine (laws_heldIntSS.calls k _ _ M 1 q _ (Kd.S_reads' HM15.out).2.2 (Kd.S_reads' HM15.out).2.1 Hq_.out).mono ?_; rintro e w16 ⟨rfl, hd⟩; have hb := Drawn0.below hd; have BA16 := zK_ (blk_below BA15.out hb); have HW16 := zK_ (Kd.N_below HW15.out hb); have HM16 := zK_ (Kd.S_below HM15.out hb); have HB16 := zK_ (below_step HB15.out hb); clear hd hb BA15 HW15 HM15; have hz0 : w16.cell? ⟨ga, 0, none⟩ = some (.int .i64 aD) := (blk_cell BA16.out 0).trans rfl; have hz1 : w16.cell? ⟨ga, 1, none⟩ = some (.slice aH aA.length aG) := (blk_cell BA16.out 1).trans rfl; (go_wp2_with fail); refine (laws_toGraph.calls k aD _ _ aA cn ce _ (Kd.C_below HR.out HB16.out) HC.out Hc_.out).mono ?_; rintro e w17 ⟨v17, rfl, hR, hb⟩; obtain ⟨Ac, cc, ec⟩ := Kd.R_slice hR; subst ec; have HCc := zK_ (Kd.R_reads' hR); have HW17 := zK_ (Kd.N_below HW16.out hb); have HM17 := zK_ (Kd.S_below HM16.out hb); have HB17 := zK_ (below_step HB16.out hb); clear hR hb hz0 hz1 BA16 HW16 HM16; (go_wp2_with fail); refine (impl_RecurrentPiles.calls k cn _ _ ce a1 H _ _ HCc.out.2.2 HCc.out.2.1 HH_.out).mono ?_; rintro e w18 ⟨v18, rfl, hS, hb⟩; obtain ⟨Ah, ch, eh⟩ := Kd.S_slice hS; subst eh; have HG18 := zK_ hS; have HW18 := zK_ (Kd.N_below HW17.out hb); have HM18 := zK_ (Kd.S_below HM17.out hb); have HB18 := zK_ (below_step HB17.out hb); clear hS hb HCc HW17 HM17; (go_wp2_with fail); refine (laws_eqIntSS.calls k _ _ H _ _ W true _ (Kd.S_reads' HG18.out).2.2 (Kd.S_reads' HG18.out).2.1 (Kd.N_reads' HW18.out).2.2 (Kd.N_reads' HW18.out).2.1 He4_.out).mono ?_; rintro e w19 ⟨rfl, hd⟩; have hb := Drawn0.below hd; have HM19 := zK_ (Kd.S_below HM18.out hb); have HB19 := zK_ (below_step HB18.out hb); clear hd hb HW18 HM18 HG18; (go_wp2_with fail); refine (laws_heldIntSS.calls k _ _ M 1 q2 _ (Kd.S_reads' HM19.out).2.2 (Kd.S_reads' HM19.out).2.1 Hq2_.out).mono ?_; rintro e w20 ⟨rfl, hd⟩; have hb := Drawn0.below hd; have HM20 := zK_ (Kd.S_below HM19.out hb); have HB20 := zK_ (below_step HB19.out hb); clear hd hb HM19; go_wp2; go_ret; exact ⟨rfl, HB20.out⟩
end Go.Proofs.Ytnbljcgdgblgoaa.P
end

section
namespace Go.Proofs.Ytnbljcgdgblgoaa.Cf
set_option linter.unusedVariables false
set_option linter.unusedSimpArgs false
open Go.RowKit Go.Proofs.YtnbljcgdgblgoaaW.PrintWords Go.Proofs.Ytnbljcgdgblgoaa.P
theorem forall_drop' {α : Type} {l : List α} {P : α → Prop} {i : Nat} (h : i < l.length) : (∀ e ∈ l.drop i, P e) ↔ (P l[i] ∧ ∀ e ∈ l.drop (i + 1), P e) := by
 rw [List.drop_eq_getElem_cons h]
 simp only [List.mem_cons, forall_eq_or_imp]
theorem implGraph (n : Int) (es : List E) : impl_GraphOk.f n es = some (gOk n es) := rfl
theorem gOk_true {n : Int} {es : List E} (h : gOk n es = true) : GOk n es := gOk_iff.1 h
theorem allWithin_l0 (a b : Int) (l : List Int) (hl : l.length ≤ 1048576) : ∀ (d i : Nat), i + d = l.length → Ep (fun k => impl_allWithin.l0 k a b l (l.length : Int) (i : Int)) (· = decide (∀ x ∈ l.drop i, a ≤ x ∧ x ≤ b)) := by
 intro d
 induction d with
 | zero =>
  intro i hi
  refine Ep.up ?_
  simp only [impl_allWithin.l0]
  refine Ep.neg (by omega) (Ep.now ?_)
  rw [List.drop_of_length_le (by omega)]
  simp
 | succ d ih =>
  intro i hi
  have hlt : i < l.length := by omega
  refine Ep.up ?_
  simp only [impl_allWithin.l0]
  refine Ep.pos (by omega) (Ep.pos (by omega) (Ep.pos (by omega) ?_))
  rw [rd_get hlt, wrap_succ (by omega)]
  refine Ep.bind0 (within_eq _ _ _) ?_
  refine Ep.ite (fun h => ?_) (fun h => Ep.now ?_)
  ·have h' : a ≤ l[i] ∧ l[i] ≤ b := by simpa using h
   refine (ih (i + 1) (by omega)).mono ?_
   rintro _ rfl
   simp only [forall_drop' hlt, h', true_and]
  ·have h' : ¬ (a ≤ l[i] ∧ l[i] ≤ b) := by simpa using h
   simp only [forall_drop' hlt, h', false_and, decide_false]
theorem allWithin_ok (l : List Int) (a b : Int) (hl : l.length ≤ 1048576) : Ep (fun k => impl_allWithin.f k l a b) (· = decide (∀ x ∈ l, a ≤ x ∧ x ≤ b)) := by
 have := allWithin_l0 a b l hl l.length 0 (by omega)
 simp only [impl_allWithin.f]
 rw [List.drop_zero] at this
 exact this
theorem isVertex_eq (n : Int) (es : List E) (v : Int) (hn : Wf .i64 n) : impl_isVertex.f n es v = some (gOk n es && decide (0 ≤ v ∧ v < n)) := by
 unfold impl_isVertex.f
 rw [implGraph]
 simp only [Option.bind_some]
 by_cases h : gOk n es = true
 ·have h1 := (gOk_true h).1.1
  have h6 := (gOk_true h).1.2.1
  rw [if_pos h, wrap_id (by omega) (by omega), within_eq, h]
  simp only [Option.bind_some, Bool.true_and]
  have : (0 ≤ v ∧ v ≤ n - 1) ↔ (0 ≤ v ∧ v < n) := by omega
  simp only [this]
 ·rw [if_neg h]
  have : gOk n es = false := by simpa using h
  rw [this]
  rfl
def At (es : List E) (k v : Int) : Prop := ∃ j : Nat, k = j ∧ ∃ h : j < es.length, es[j].f0 = v ∨ es[j].f1 = v
theorem At.of {es : List E} {j : Nat} {v : Int} (hj : j < es.length) : At es (j : Int) v ↔ (es[j].f0 = v ∨ es[j].f1 = v) := by
 constructor
 ·rintro ⟨i, hi, h, hx⟩
  have : i = j := by omega
  subst this
  exact hx
 ·intro h
  exact ⟨j, rfl, hj, h⟩
end Go.Proofs.Ytnbljcgdgblgoaa.Cf
end

section
namespace Go.Proofs.Ytnbljcgdgblgoaa.Cf
set_option linter.unusedVariables false
set_option linter.unusedSimpArgs false
def sumN : Nat → (Nat → Int) → Int
 | 0, _ => 0
 | n + 1, f => sumN n f + f n
def sumE (es : List E) (f : E → Int) : Int := (es.map f).sum
theorem sumE_cons (e : E) (r : List E) (f : E → Int) : sumE (e :: r) f = f e + sumE r f := by simp [sumE]
theorem sumN_congr {n : Nat} {f g : Nat → Int} (h : ∀ i, i < n → f i = g i) : sumN n f = sumN n g := by
 induction n with
 | zero => rfl
 | succ n ih => simp only [sumN]; rw [ih (fun i hi => h i (by omega)), h n (by omega)]
theorem sumN_le {n : Nat} {f g : Nat → Int} (h : ∀ i, i < n → f i ≤ g i) : sumN n f ≤ sumN n g := by
 induction n with
 | zero => exact Int.le_refl _
 | succ n ih =>
  simp only [sumN]
  have := ih (fun i hi => h i (by omega))
  have := h n (by omega)
  omega
theorem sumN_add (n : Nat) (f g : Nat → Int) : sumN n (fun i => f i + g i) = sumN n f + sumN n g := by
 induction n with
 | zero => rfl
 | succ n ih => simp only [sumN]; rw [ih]; omega
theorem sumN_zero (n : Nat) : sumN n (fun _ => 0) = 0 := by
 induction n with
 | zero => rfl
 | succ n ih => simp only [sumN]; rw [ih]; rfl
theorem sumN_const (n : Nat) (c : Int) : sumN n (fun _ => c) = n * c := by
 induction n with
 | zero => simp [sumN]
 | succ n ih => simp only [sumN]; rw [ih]; rw [Int.natCast_succ, Int.add_mul]; omega
theorem sumN_one {n : Nat} (k : Nat) (hk : k < n) (c : Int) : sumN n (fun i => if i = k then c else 0) = c := by
 induction n with
 | zero => omega
 | succ n ih =>
  simp only [sumN]
  by_cases h : n = k
  ·subst h
   rw [if_pos rfl, sumN_congr (g := fun _ => 0) (fun i hi => by rw [if_neg (by omega)]), sumN_zero]
   omega
  ·rw [ih (by omega), if_neg h]
   omega
theorem sumE_congr {es : List E} {f g : E → Int} (h : ∀ e ∈ es, f e = g e) : sumE es f = sumE es g := by
 unfold sumE
 rw [List.map_congr_left h]
theorem sumE_add (es : List E) (f g : E → Int) : sumE es (fun e => f e + g e) = sumE es f + sumE es g := by
 induction es with
 | nil => rfl
 | cons e r ih => rw [sumE_cons, sumE_cons, sumE_cons, ih]; omega
theorem sumE_le {es : List E} {f g : E → Int} (h : ∀ e ∈ es, f e ≤ g e) : sumE es f ≤ sumE es g := by
 induction es with
 | nil => exact Int.le_refl _
 | cons e r ih =>
  rw [sumE_cons, sumE_cons]
  have := ih (fun x hx => h x (List.mem_cons_of_mem _ hx))
  have := h e List.mem_cons_self
  omega
theorem sumE_zero {es : List E} {f : E → Int} (h : ∀ e ∈ es, f e = 0) : sumE es f = 0 := by
 induction es with
 | nil => rfl
 | cons e r ih => rw [sumE_cons, ih (fun x hx => h x (List.mem_cons_of_mem _ hx)), h e List.mem_cons_self]; rfl
theorem sumE_nonneg {es : List E} {f : E → Int} (h : ∀ e ∈ es, 0 ≤ f e) : 0 ≤ sumE es f := by
 have := sumE_le (es := es) (f := fun _ => 0) (g := f) h
 rw [sumE_zero (fun _ _ => rfl)] at this
 exact this
theorem sumE_term {es : List E} {f : E → Int} (h : ∀ e ∈ es, 0 ≤ f e) {e : E} (he : e ∈ es) : f e ≤ sumE es f := by
 induction es with
 | nil => cases he
 | cons a r ih =>
  rw [sumE_cons]
  have h0 := sumE_nonneg (fun x hx => h x (List.mem_cons_of_mem a hx))
  rcases List.mem_cons.1 he with rfl | he
  ·omega
  ·have := ih (fun x hx => h x (List.mem_cons_of_mem _ hx)) he
   have := h a List.mem_cons_self
   omega
theorem sumE_neg (es : List E) (f : E → Int) : sumE es (fun e => - f e) = - sumE es f := by
 induction es with
 | nil => rfl
 | cons e r ih => rw [sumE_cons, sumE_cons, ih]; omega
theorem sumE_mul (es : List E) (c : Int) (f : E → Int) : sumE es (fun e => c * f e) = c * sumE es f := by
 induction es with
 | nil => simp [sumE]
 | cons e r ih => rw [sumE_cons, sumE_cons, ih, Int.mul_add]
def lapE (s : Int → Int) (w : Int) (e : E) : Int := (if e.f0 = w then s e.f0 - s e.f1 else 0) + (if e.f1 = w then s e.f1 - s e.f0 else 0)
def lap (es : List E) (s : Int → Int) (w : Int) : Int := sumE es (lapE s w)
def ind (P : Int → Bool) (v : Int) : Int := if P v then 1 else 0
def one (v : Int) (t : Int) (w : Int) : Int := if w = v then t else 0
theorem lap_nil (s : Int → Int) (w : Int) : lap [] s w = 0 := rfl
theorem lap_cons (e : E) (r : List E) (s : Int → Int) (w : Int) : lap (e :: r) s w = lapE s w e + lap r s w := sumE_cons _ _ _
theorem lap_add (es : List E) (s t : Int → Int) (w : Int) : lap es (fun v => s v + t v) w = lap es s w + lap es t w := by
 unfold lap
 rw [← sumE_add]
 apply sumE_congr
 intro e _
 simp only [lapE]
 split <;> split <;> omega
theorem lap_neg (es : List E) (s : Int → Int) (w : Int) : lap es (fun v => - s v) w = - lap es s w := by
 unfold lap
 rw [← sumE_neg]
 apply sumE_congr
 intro e _
 simp only [lapE]
 split <;> split <;> omega
theorem lap_sub (es : List E) (s t : Int → Int) (w : Int) : lap es (fun v => s v - t v) w = lap es s w - lap es t w := by
 have := lap_add es s (fun v => - t v) w
 rw [lap_neg] at this
 rw [show (fun v => s v - t v) = (fun v => s v + - t v) from funext fun v => by omega, this]
 omega
theorem lap_congr {n : Int} {es : List E} (hes : ∀ e ∈ es, EOk n e) {s t : Int → Int} (h : ∀ v, 0 ≤ v → v < n → s v = t v) (w : Int) : lap es s w = lap es t w := by
 apply sumE_congr
 intro e he
 have hk := hes e he
 unfold EOk at hk
 unfold lapE
 rw [h e.f0 (by omega) (by omega), h e.f1 (by omega) (by omega)]
theorem lap_const {es : List E} {s : Int → Int} {c : Int} (h : ∀ e ∈ es, s e.f0 = c ∧ s e.f1 = c) (w : Int) : lap es s w = 0 := by
 apply sumE_zero
 intro e he
 unfold lapE
 rw [(h e he).1, (h e he).2]
 split <;> split <;> omega
def Red (n : Nat) (es : List E) (q : Int) (d : Int → Int) : Prop :=
 (∀ v : Int, 0 ≤ v → v < n → v ≠ q → 0 ≤ d v) ∧ ∀ S : Int → Bool, S q = false → (∃ v : Int, 0 ≤ v ∧ v < n ∧ S v = true) → ∃ v : Int, 0 ≤ v ∧ v < n ∧ S v = true ∧ d v < lap es (ind S) v
theorem exists_cut {es : List E} {S : Int → Prop} {a b : Int} (hab : Conn es a b) (ha : ¬ S a) (hb : S b) : ∃ u w, Adj es u w ∧ S u ∧ ¬ S w := by
 induction hab with
 | refl => exact absurd hb ha
 | @tail x y _ hadj ih =>
  by_cases hx : S x
  ·exact ih hx
  ·exact ⟨y, x, hadj.symm, hb, hx⟩
def below (n : Nat) (s : Int → Int) (t : Int) : Nat := (List.range n).countP (fun i => decide (s (i : Nat) < t))
def valE (v : Int) (e : E) : Int := if e.f0 = v ∨ e.f1 = v then 1 else 0
def val (es : List E) (v : Int) : Int := sumE es (valE v)
def multE (a b : Int) (e : E) : Int := if (e.f0 = a ∧ e.f1 = b) ∨ (e.f0 = b ∧ e.f1 = a) then 1 else 0
def mult (es : List E) (a b : Int) : Int := sumE es (multE a b)
theorem val_nonneg (es : List E) (v : Int) : 0 ≤ val es v := sumE_nonneg fun e _ => by unfold valE; split <;> omega
theorem mult_nonneg (es : List E) (a b : Int) : 0 ≤ mult es a b := sumE_nonneg fun e _ => by unfold multE; split <;> omega
theorem sumE_len {es : List E} {f : E → Int} (h : ∀ e ∈ es, f e ≤ 1) : sumE es f ≤ es.length := by
 induction es with
 | nil => simp [sumE]
 | cons e r ih =>
  rw [sumE_cons]
  have := ih (fun x hx => h x (List.mem_cons_of_mem _ hx))
  have := h e List.mem_cons_self
  simp only [List.length_cons]
  omega
theorem val_le (es : List E) (v : Int) : val es v ≤ es.length := sumE_len fun e _ => by unfold valE; split <;> omega
theorem mult_le (es : List E) (a b : Int) : mult es a b ≤ es.length := sumE_len fun e _ => by unfold multE; split <;> omega
theorem lap_one_self {n : Int} {es : List E} (hes : ∀ e ∈ es, EOk n e) (v t : Int) : lap es (one v t) v = t * val es v := by
 unfold lap val
 rw [← sumE_mul]
 apply sumE_congr
 intro e he
 have hk := hes e he
 unfold EOk at hk
 unfold lapE valE one
 by_cases a : e.f0 = v
 ·have b : ¬ e.f1 = v := by omega
  simp [a, b]
 ·by_cases b : e.f1 = v
  ·simp [a, b]
  ·simp [a, b]
theorem val_pos {n : Nat} {es : List E} (hj : Joined n es) {q v : Int} (hq : 0 ≤ q ∧ q < n) (hv : 0 ≤ v ∧ v < n) (hne : v ≠ q) : 0 < val es v := by
 have hc : Conn es q v := ((hj q hq.1 hq.2).symm).trans (hj v hv.1 hv.2)
 obtain ⟨u, w, ⟨e, he, hx⟩, hu, hw⟩ := exists_cut (S := fun x => x = v) hc (fun h => hne h.symm) rfl
 subst hu
 have h1 := sumE_term (f := valE u) (fun e _ => by unfold valE; split <;> omega) he
 have h2 : valE u e = 1 := by
  unfold valE
  rw [if_pos]
  rcases hx with ⟨a, _⟩ | ⟨_, b⟩
  ·exact .inl a
  ·exact .inr b
 unfold val
 omega
inductive Legal (n : Nat) (es : List E) (q : Int) (p : Int → Int) : (Int → Int) → Prop
 | zero : Legal n es q p (fun _ => 0)
 | step {s : Int → Int} {v : Int} : Legal n es q p s → 0 ≤ v → v < n → v ≠ q → val es v ≤ p v - lap es s v → Legal n es q p (fun w => s w + one v 1 w)
theorem Legal.nonneg {n : Nat} {es : List E} {q : Int} {p s : Int → Int} (h : Legal n es q p s) : (∀ w, 0 ≤ s w) ∧ s q = 0 := by
 induction h with
 | zero => exact ⟨fun _ => Int.le_refl _, rfl⟩
 | @step s v _ _ _ hq _ ih =>
  refine ⟨fun w => ?_, ?_⟩
  ·have := ih.1 w
   show 0 ≤ s w + one v 1 w
   unfold one
   split <;> omega
  ·have := ih.2
   show s q + one v 1 q = 0
   unfold one
   rw [if_neg (fun x : q = v => hq x.symm)]
   omega
end Go.Proofs.Ytnbljcgdgblgoaa.Cf
end

section
namespace Go.Proofs.Ytnbljcgdgblgoaa.P
open Go.RowKit Go.Proofs.YtnbljcgdgblgoaaW.PrintWords Go.Proofs.YtnbljcgdgblgoaaW.PrintLast Go.Proofs.YtnbljcgdgblgoaaW.PrintMore
attribute [local go_sem] max2_int min2_int max_two min_two max_three min_three max_four min_four
set_option linter.unusedVariables false
set_option linter.unusedSimpArgs false
def impl_DivisorOk.f (k : Nat) (aD : Int) (aA : List (S57)) (l1 : List Int) : Option (Bool) := (impl_GraphOk.f aD aA).bind fun aZ => (if aZ = true then (if (l1.length : Int) = aD then ((impl_allWithin.f k l1 (-60) 60).bind fun bN => (some bN)) else (some false)) else (some false))
theorem impl_DivisorOk.mono : ∀ a0 a1 a2 k, LeO (impl_DivisorOk.f k a0 a1 a2) (impl_DivisorOk.f (k + 1) a0 a1 a2) := by
 intro a0 a1 a2 k; unfold impl_DivisorOk.f; repeat' first | (with_reducible apply impl_allWithin.mono) | (with_reducible exact LeO.refl _) | (with_reducible exact LeO.none _) | (with_reducible refine LeO.ite ?_ ?_) | (with_reducible refine LeO.bind ?_ (fun _ => ?_)) | apply impl_allWithin.mono | exact LeO.none _ | refine LeO.ite ?_ ?_ | refine LeO.bind ?_ (fun _ => ?_)
theorem impl_DivisorOk.calls (k : Nat) (aD : Int) (aH : Option Addr) (aG : Nat) (aA : List (S57)) (A1 : Option Addr) (c1 : Nat) (l1 : List Int) (r : Bool) (w : World) (hr0_1 : Kd.C k57 w aH aA.length aA) (hc0_1 : aA.length ≤ aG) (hr1 : Kd.C (Kd.int .i64) w A1 l1.length l1) (hc1 : l1.length ≤ c1) (h : impl_DivisorOk.f k aD aA l1 = some r) :
  Calls Try.prog 108 #[.agg #[.int .i64 aD, .slice aH aA.length aG], .slice A1 l1.length c1] w fun e w' => e = .returned (.bool r) ∧ Below w.heap.size w w' := by
 have hu25 := Try.underlying25; have bL := zK_ hr0_1; have bG := zK_ hc0_1; clear hr0_1 hc0_1; have HR1 := zK_ hr1; have HC1 := zK_ hc1; clear hr1 hc1; have HB := zK_ (Below.refl w.heap.size w); have H : ((impl_GraphOk.f aD aA).bind fun aZ => (if aZ = true then (if (l1.length : Int) = aD then ((impl_allWithin.f k l1 (-60) 60).bind fun bN => (some bN)) else (some false)) else (some false))) = some r := h; clear h; obtain ⟨aZ, A30, H⟩ := zO_ H; (try dsimp only at H); have A3 := zK_ A30; clear A30; by_cases c4 : aZ = true; rotate_left
 ·replace c4 := Bool.eq_false_iff.mpr c4; subst c4; rw [if_neg (show ¬ (false = true) by decide)] at H; obtain rfl := Option.some.inj H; go_enter Try.func108, Try.ntmps108; (go_wp2_with (first | ((with_reducible refine gate_dst (N := 2) rfl ?_); (try (refine gate_guard (by rfl) ?_; dsimp only)); refine box_event ?hg (N := 2) ?hd (cs := #[.int .i64 aD, .slice aH aA.length aG]) (t := 25) ?hr ?_; (case hd => rfl); (case hg => rfl); (case hr => exact zz9); intro aE hg w15 hbox hb; have n_ := zA4 (below_step zz1 hb) hbox (zz10 : w.heap.size ≤ aE) (zz10 : w.heap.size ≤ aE); clear HB; obtain ⟨HB, aC, GW101, GE101⟩ := n_; clear hb hbox hg; have jN := zC20 aC; have jM := zC21 aC; have jF := blk_frozen aC.out 0; have jE := blk_frozen aC.out 1) | ((with_reducible refine gate_callee (f := 50) rfl ?_); refine goesL_ (some 6) rfl rfl Try.func50 (by kernel_rfl) rfl #[.agg #[.int .i64 aD, .slice aH aA.length aG]] rfl zz4 ?_; (with_reducible refine (impl_GraphOk.calls aD _ _ aA false _ ?side1 ?side2 A3.out).mono ?_); (case side1 => exact zz6); (case side2 => exact bG.out); rintro e w17 ⟨rfl, hb⟩; refine ⟨_, rfl, ?_⟩; have n_ := zA2 (blk_below (g := aE) (o := .cells #[.int .i64 aD, .slice aH aA.length aG] 25 (0, 0)) zz2 hb) (below_step zz0 hb); clear aC HB; obtain ⟨aC, HB⟩ := n_; clear hb))); go_ret; exact ⟨zz7, zz0⟩
 subst c4; rw [if_pos rfl] at H; by_cases c5 : (l1.length : Int) = aD; rotate_left
 ·rw [if_neg c5] at H; have dH : ((l1.length : Int) == aD) = false := beq_eq_false_iff_ne.mpr c5; have kA : ((l1.length : Int) != aD) = true := bne_iff_ne.mpr c5; obtain rfl := Option.some.inj H; go_enter Try.func108, Try.ntmps108; (go_wp2_with (first | ((with_reducible refine gate_dst (N := 2) rfl ?_); (try (refine gate_guard (by rfl) ?_; dsimp only)); refine box_event ?hg (N := 2) ?hd (cs := #[.int .i64 aD, .slice aH aA.length aG]) (t := 25) ?hr ?_; (case hd => rfl); (case hg => rfl); (case hr => exact zz9); intro aE hg w11 hbox hb; have n_ := zA4 (below_step zz1 hb) hbox (zz10 : w.heap.size ≤ aE) (zz10 : w.heap.size ≤ aE); clear HB; obtain ⟨HB, aC, GW101, GE101⟩ := n_; clear hb hbox hg; have f2 := zC20 aC; have fZ := zC21 aC; have fY := blk_frozen aC.out 0; have fX := blk_frozen aC.out 1) | ((with_reducible refine gate_callee (f := 50) rfl ?_); refine goesL_ (some 6) rfl rfl Try.func50 (by kernel_rfl) rfl #[.agg #[.int .i64 aD, .slice aH aA.length aG]] rfl zz4 ?_; (with_reducible refine (impl_GraphOk.calls aD _ _ aA true _ ?side1 ?side2 A3.out).mono ?_); (case side1 => exact zz6); (case side2 => exact bG.out); rintro e w13 ⟨rfl, hb⟩; refine ⟨_, rfl, ?_⟩; have n_ := zA2 (blk_below (g := aE) (o := .cells #[.int .i64 aD, .slice aH aA.length aG] 25 (0, 0)) zz2 hb) (below_step zz0 hb); clear aC HB; obtain ⟨aC, HB⟩ := n_; clear hb; have eQ := zC20 aC; have eO := zC21 aC; have eH := blk_frozen aC.out 0; have eG := blk_frozen aC.out 1))); go_ret; exact ⟨zz7, zz0⟩
 rw [if_pos c5] at H; have dH : ((l1.length : Int) == aD) = true := beq_iff_eq.mpr c5; have kA : ((l1.length : Int) != aD) = false := bne_eq_false_iff_eq.mpr c5; clear c5; obtain ⟨bN, A60, H⟩ := zO_ H; (try dsimp only at H); have A6 := zK_ A60; clear A60; obtain rfl := Option.some.inj H; go_enter Try.func108, Try.ntmps108; (go_wp2_with (first | ((with_reducible refine gate_dst (N := 2) rfl ?_); (try (refine gate_guard (by rfl) ?_; dsimp only)); refine box_event ?hg (N := 2) ?hd (cs := #[.int .i64 aD, .slice aH aA.length aG]) (t := 25) ?hr ?_; (case hd => rfl); (case hg => rfl); (case hr => exact zz9); intro aE hg w7 hbox hb; have n_ := zA4 (below_step zz1 hb) hbox (zz10 : w.heap.size ≤ aE) (zz10 : w.heap.size ≤ aE); clear HB; obtain ⟨HB, aC, GW101, GE101⟩ := n_; clear hb hbox hg; have gG := zC20 aC; have gF := zC21 aC; have gC := blk_frozen aC.out 0; have gA := blk_frozen aC.out 1) | ((with_reducible refine gate_callee (f := 50) rfl ?_); refine goesL_ (some 6) rfl rfl Try.func50 (by kernel_rfl) rfl #[.agg #[.int .i64 aD, .slice aH aA.length aG]] rfl zz4 ?_; (with_reducible refine (impl_GraphOk.calls aD _ _ aA true _ ?side1 ?side2 A3.out).mono ?_); (case side1 => exact zz6); (case side2 => exact bG.out); rintro e w9 ⟨rfl, hb⟩; refine ⟨_, rfl, ?_⟩; have n_ := zA2 (blk_below (g := aE) (o := .cells #[.int .i64 aD, .slice aH aA.length aG] 25 (0, 0)) zz2 hb) (below_step zz0 hb); clear aC HB; obtain ⟨aC, HB⟩ := n_; clear hb; have cK := zC20 aC; have cJ := zC21 aC; have cI := blk_frozen aC.out 0; have cH := blk_frozen aC.out 1) | (go_at_call 51; (with_reducible refine (impl_allWithin.calls k _ _ l1 (-60) 60 bN _ ?side1 ?side2 A6.out).mono ?_); (case side1 => exact zz46); (case side2 => exact HC1.out); rintro e w' ⟨rfl, ⟨nd, rfl⟩⟩))); go_ret; exact ⟨zz7, zz0⟩
end Go.Proofs.Ytnbljcgdgblgoaa.P
end

section
namespace Go.Proofs.Ytnbljcgdgblgoaa.Cf
set_option linter.unusedVariables false
set_option linter.unusedSimpArgs false
open Go.RowKit Go.Proofs.YtnbljcgdgblgoaaW.PrintWords Go.Proofs.Ytnbljcgdgblgoaa.P
def valG (n : Int) (es : List E) (v : Int) : Int := if 0 ≤ v ∧ v < n then val es v else 0
theorem val_drop {es : List E} {i : Nat} (h : i < es.length) (v : Int) : val (es.drop i) v = valE v es[i] + val (es.drop (i + 1)) v := by
 rw [List.drop_eq_getElem_cons h]
 exact sumE_cons _ _ _
theorem specVal_loop (v : Int) (es : List E) (hl : es.length ≤ 1048576) : ∀ (d i : Nat) (a : Int), i + d = es.length → 0 ≤ a → a ≤ i → Ep (fun k => spec_Valence.l0 k v a es (es.length : Int) (i : Int)) (· = a + val (es.drop i) v) := by
 intro d
 induction d with
 | zero =>
  intro i a hi h0 ha
  refine Ep.up ?_
  simp only [spec_Valence.l0]
  refine Ep.neg (by omega) (Ep.now ?_)
  rw [List.drop_of_length_le (by omega)]
  simp [val, sumE]
 | succ d ih =>
  intro i a hi h0 ha
  have hlt : i < es.length := by omega
  refine Ep.up ?_
  simp only [spec_Valence.l0]
  refine Ep.pos (by omega) (Ep.pos (by omega) (Ep.pos (by omega) ?_))
  rw [rdE_get hlt, wrap_succ (by omega), wrap_id (x := a + 1) (by omega) (by omega), val_drop hlt]
  refine Ep.ite (fun h => ?_) (fun h => Ep.ite (fun h2 => ?_) (fun h2 => ?_))
  ·refine (ih (i + 1) (a + 1) (by omega) (by omega) (by omega)).mono ?_
   rintro _ rfl
   unfold valE
   rw [if_pos (.inl h)]
   omega
  ·refine (ih (i + 1) (a + 1) (by omega) (by omega) (by omega)).mono ?_
   rintro _ rfl
   unfold valE
   rw [if_pos (.inr h2)]
   omega
  ·refine (ih (i + 1) a (by omega) h0 (by omega)).mono ?_
   rintro _ rfl
   unfold valE
   rw [if_neg (by rintro (x | x); exact h x; exact h2 x)]
   omega
theorem specValence (n : Int) (es : List E) (v : Int) (hl : es.length ≤ 1048576) : Ep (fun k => spec_Valence.f k n es v) (· = valG n es v) := by
 have hv : spec_l02Vert.f n es v = some (decide (0 ≤ v ∧ v < n)) := by
  unfold spec_l02Vert.f
  by_cases h : v ≥ 0
  ·rw [if_pos h]
   have : (0 ≤ v ∧ v < n) ↔ v < n := ⟨fun x => x.2, fun x => ⟨h, x⟩⟩
   simp only [this]
  ·rw [if_neg h]
   have : ¬ (0 ≤ v ∧ v < n) := fun x => h x.1
   simp only [this, decide_false]
 simp only [spec_Valence.f, valG]
 refine Ep.bind0 hv (Ep.ite (fun h => ?_) (fun h => Ep.now ?_))
 ·refine (specVal_loop v es hl es.length 0 0 (by omega) (by omega) (by omega)).mono ?_
  rintro _ rfl
  rw [if_pos (by simpa using h), List.drop_zero]
  omega
 ·rw [if_neg (by simpa using h)]
theorem implVal_loop (v : Int) (es : List E) (hl : es.length ≤ 1048576) : ∀ (d i : Nat) (a : Int), i + d = es.length → 0 ≤ a → a ≤ i → Ep (fun k => impl_Valence.l0 k v a es (es.length : Int) (i : Int)) (· = a + val (es.drop i) v) := by
 intro d
 induction d with
 | zero =>
  intro i a hi h0 ha
  refine Ep.up ?_
  simp only [impl_Valence.l0]
  refine Ep.neg (by omega) (Ep.now ?_)
  rw [List.drop_of_length_le (by omega)]
  simp [val, sumE]
 | succ d ih =>
  intro i a hi h0 ha
  have hlt : i < es.length := by omega
  refine Ep.up ?_
  simp only [impl_Valence.l0]
  refine Ep.pos (by omega) (Ep.pos (by omega) (Ep.pos (by omega) ?_))
  rw [rdE_get hlt, wrap_succ (by omega), wrap_id (x := a + 1) (by omega) (by omega), val_drop hlt]
  refine Ep.ite (fun h => ?_) (fun h => Ep.ite (fun h2 => ?_) (fun h2 => ?_))
  ·refine (ih (i + 1) (a + 1) (by omega) (by omega) (by omega)).mono ?_
   rintro _ rfl
   unfold valE
   rw [if_pos (.inl h)]
   omega
  ·refine (ih (i + 1) (a + 1) (by omega) (by omega) (by omega)).mono ?_
   rintro _ rfl
   unfold valE
   rw [if_pos (.inr h2)]
   omega
  ·refine (ih (i + 1) a (by omega) h0 (by omega)).mono ?_
   rintro _ rfl
   unfold valE
   rw [if_neg (by rintro (x | x); exact h x; exact h2 x)]
   omega
theorem implValence (n : Int) (es : List E) (v : Int) (hl : es.length ≤ 1048576) : Ep (fun k => impl_Valence.f k n es v) (· = valG n es v) := by
 simp only [impl_Valence.f, valG]
 refine Ep.ite (fun h => ?_) (fun h => ?_)
 ·refine Ep.up ?_
  simp only [impl_Valence.j0]
  refine Ep.pos trivial (Ep.now ?_)
  rw [if_neg (by omega)]
 ·refine Ep.up ?_
  simp only [impl_Valence.j0]
  refine Ep.ite (fun h2 => Ep.now ?_) (fun h2 => ?_)
  ·have : v ≥ n := by simpa using h2
   rw [if_neg (by omega)]
  ·have : ¬ v ≥ n := by simpa using h2
   refine (implVal_loop v es hl es.length 0 0 (by omega) (by omega) (by omega)).mono ?_
   rintro _ rfl
   rw [if_pos (by omega), List.drop_zero]
   omega
end Go.Proofs.Ytnbljcgdgblgoaa.Cf
end

section
namespace Go.Proofs.Ytnbljcgdgblgoaa.Cf
set_option linter.unusedVariables false
set_option linter.unusedSimpArgs false
def burnSum (es : List E) (b : List Int) (v : Int) : Int := (b.map (mult es v)).sum
inductive Burn (n : Nat) (es : List E) (d : Int → Int) (q : Int) : List Int → Prop
 | start : Burn n es d q [q]
 | step {b : List Int} {v : Int} : Burn n es d q b → 0 ≤ v → v < n → v ∉ b → d v < burnSum es b v → Burn n es d q (b ++ [v])
theorem Burn.ok {n : Nat} {es : List E} {d : Int → Int} {q : Int} {b : List Int} (hq : 0 ≤ q ∧ q < n) (h : Burn n es d q b) : b.Nodup ∧ (∀ v ∈ b, 0 ≤ v ∧ v < n) ∧ q ∈ b := by
 induction h with
 | start => exact ⟨by simp, fun v hv => by rw [List.mem_singleton.1 hv]; exact hq, by simp⟩
 | @step b v _ h0 h1 hv _ ih =>
  refine ⟨?_, fun x hx => ?_, List.mem_append_left _ ih.2.2⟩
  ·rw [List.nodup_append]
   exact ⟨ih.1, by simp, fun a ha c hc => by
    rw [List.mem_singleton.1 hc]
    rintro rfl
    exact hv ha⟩
  ·rcases List.mem_append.1 hx with hx | hx
   ·exact ih.2.1 x hx
   ·rw [List.mem_singleton.1 hx]
    exact ⟨h0, h1⟩
theorem Burn.len {n : Nat} {es : List E} {d : Int → Int} {q : Int} {b : List Int} (hq : 0 ≤ q ∧ q < n) (h : Burn n es d q b) : b.length ≤ n := nodup_len n b (h.ok hq).1 (h.ok hq).2.1
theorem sum_ind (x : Int) : ∀ (b : List Int), b.Nodup → (b.map (fun w => if x = w then (1 : Int) else 0)).sum = if x ∈ b then 1 else 0
 | [], _ => by simp
 | a :: r, h => by
  have ih := sum_ind x r (List.nodup_cons.1 h).2
  have hn := (List.nodup_cons.1 h).1
  simp only [List.map_cons, List.sum_cons, ih, List.mem_cons]
  by_cases e : x = a
  ·subst e
   simp [hn]
  ·simp [e]
theorem sum_zero (b : List Int) : (b.map (fun _ => (0 : Int))).sum = 0 := by
 induction b with
 | nil => rfl
 | cons a r ih => simp only [List.map_cons, List.sum_cons, ih]; rfl
theorem sum_add (b : List Int) (f g : Int → Int) : (b.map (fun w => f w + g w)).sum = (b.map f).sum + (b.map g).sum := by
 induction b with
 | nil => rfl
 | cons a r ih => simp only [List.map_cons, List.sum_cons, ih]; omega
theorem burnSum_lap {n : Int} {es : List E} (hes : ∀ e ∈ es, EOk n e) {b : List Int} (hb : b.Nodup) {v : Int} (hv : v ∉ b) : burnSum es b v = lap es (ind (fun x => decide (x ∉ b))) v := by
 induction es with
 | nil =>
  unfold burnSum
  rw [lap_nil]
  exact sum_zero b
 | cons e r ih =>
  have ih := ih (fun x hx => hes x (List.mem_cons_of_mem _ hx))
  have hk := hes e List.mem_cons_self
  unfold EOk at hk
  have h1 : burnSum (e :: r) b v = (b.map (fun w => multE v w e)).sum + burnSum r b v := by
   unfold burnSum
   rw [← sum_add]
   congr 1
  rw [h1, ih, lap_cons]
  congr 1
  unfold lapE ind multE
  by_cases a : e.f0 = v
  ·have c : ¬ e.f1 = v := by omega
   have key : (b.map (fun w => if (e.f0 = v ∧ e.f1 = w) ∨ (e.f0 = w ∧ e.f1 = v) then (1 : Int) else 0)).sum = if e.f1 ∈ b then 1 else 0 := by
    rw [← sum_ind e.f1 b hb]
    congr 1
    apply List.map_congr_left
    intro w _
    simp [a, c]
   rw [key, if_pos a, if_neg c, a]
   by_cases m : e.f1 ∈ b <;> simp [m, hv]
  ·by_cases c : e.f1 = v
   ·have key : (b.map (fun w => if (e.f0 = v ∧ e.f1 = w) ∨ (e.f0 = w ∧ e.f1 = v) then (1 : Int) else 0)).sum = if e.f0 ∈ b then 1 else 0 := by
     rw [← sum_ind e.f0 b hb]
     congr 1
     apply List.map_congr_left
     intro w _
     simp [a, c]
    rw [key, if_neg a, if_pos c, c]
    by_cases m : e.f0 ∈ b <;> simp [m, hv]
   ·have key : (b.map (fun w => if (e.f0 = v ∧ e.f1 = w) ∨ (e.f0 = w ∧ e.f1 = v) then (1 : Int) else 0)).sum = 0 := by
     exact (congrArg List.sum (List.map_congr_left (g := fun _ => (0 : Int)) (fun w _ => by simp [a, c]))).trans (sum_zero b)
    rw [key, if_neg a, if_neg c]
    rfl
theorem lap_ind_mono {es : List E} {S T : Int → Bool} {v : Int} (hv : S v = true) (hw : T v = true) (h : ∀ x, S x = true → T x = true) : lap es (ind T) v ≤ lap es (ind S) v := by
 apply sumE_le
 intro e _
 have h0 := h e.f0
 have h1 := h e.f1
 unfold lapE ind
 by_cases a : e.f0 = v
 ·by_cases b : e.f1 = v
  ·simp [a, b]
  ·rw [if_pos a, if_pos a, if_neg b, if_neg b, a, hv, hw]
   cases hs : S e.f1 <;> cases ht : T e.f1 <;> simp_all
 ·by_cases b : e.f1 = v
  ·rw [if_neg a, if_neg a, if_pos b, if_pos b, b, hv, hw]
   cases hs : S e.f0 <;> cases ht : T e.f0 <;> simp_all
  ·rw [if_neg a, if_neg a, if_neg b, if_neg b]
   exact Int.le_refl _
theorem Burn.meets {n : Nat} {es : List E} (hes : ∀ e ∈ es, EOk n e) {d : Int → Int} {q : Int} (hq : 0 ≤ q ∧ q < n) {b : List Int} (h : Burn n es d q b) {S : Int → Bool} (hS : S q = false) : (∀ v ∈ b, S v = false) ∨ ∃ v : Int, 0 ≤ v ∧ v < n ∧ S v = true ∧ d v < lap es (ind S) v := by
 induction h with
 | start => exact .inl (fun v hv => by rw [List.mem_singleton.1 hv]; exact hS)
 | @step b v hb h0 h1 hv hlt ih =>
  rcases ih with ih | ih
  ·by_cases hx : S v = true
   ·right
    refine ⟨v, h0, h1, hx, ?_⟩
    rw [burnSum_lap hes (hb.ok hq).1 hv] at hlt
    have := lap_ind_mono (es := es) (S := S) (T := fun x => decide (x ∉ b)) hx (by simpa using hv) (fun x hx => by
     simp only [decide_eq_true_eq]
     intro hm
     rw [ih x hm] at hx
     cases hx)
    omega
   ·left
    intro x hm
    rcases List.mem_append.1 hm with hm | hm
    ·exact ih x hm
    ·rw [List.mem_singleton.1 hm]
     simpa using hx
  ·exact .inr ih
theorem Burn.red {n : Nat} {es : List E} (hes : ∀ e ∈ es, EOk n e) {d : Int → Int} {q : Int} (hq : 0 ≤ q ∧ q < n) {b : List Int} (h : Burn n es d q b) (hl : b.length = n) (hd : ∀ v : Int, 0 ≤ v → v < n → v ≠ q → 0 ≤ d v) : Red n es q d := by
 refine ⟨hd, fun S hS hx => ?_⟩
 rcases h.meets hes hq hS with hb | hb
 ·exfalso
  obtain ⟨v, h0, h1, hv⟩ := hx
  have : v ∈ b := by
   apply Classical.byContradiction
   intro hn
   have := nodup_len n (v :: b) (List.nodup_cons.2 ⟨hn, (h.ok hq).1⟩) (fun x hx => by
    rcases List.mem_cons.1 hx with rfl | hx
    ·exact ⟨h0, h1⟩
    ·exact (h.ok hq).2.1 x hx)
   simp at this
   omega
  rw [hb v this] at hv
  cases hv
 ·exact hb
theorem sumN_le_const {n : Nat} {f : Nat → Int} {c : Int} (h : ∀ i, i < n → f i ≤ c) : sumN n f ≤ n * c := by
 rw [← sumN_const]
 exact sumN_le h
theorem sumN_nonneg {n : Nat} {f : Nat → Int} (h : ∀ i, i < n → 0 ≤ f i) : 0 ≤ sumN n f := by
 have := sumN_le (n := n) (f := fun _ => 0) (g := f) h
 rw [sumN_zero] at this
 exact this
def dual (es : List E) (d : Int → Int) (v : Int) : Int := val es v - 1 - d v
structure Sets (n : Nat) (es : List E) (q : Int) (d u : Int → Int) : Prop where
 pos : ∀ w, 0 ≤ u w
 at_q : u q = 0
 keeps : ∀ v : Int, 0 ≤ v → v < n → v ≠ q → 0 ≤ d v - lap es u v
theorem Sets.zero {n : Nat} {es : List E} {q : Int} {d : Int → Int} (h : ∀ v : Int, 0 ≤ v → v < n → v ≠ q → 0 ≤ d v) : Sets n es q d (fun _ => 0) where
 pos := fun _ => Int.le_refl _
 at_q := rfl
 keeps := fun v h0 h1 h2 => by
  rw [lap_const (c := 0) (fun _ _ => ⟨rfl, rfl⟩)]
  have := h v h0 h1 h2
  omega
def nextB (es : List E) (d : Int → Int) (b : List Int) : Nat → Nat → Int
 | 0, _ => -1
 | k + 1, i => if (i : Int) ∉ b ∧ d i < burnSum es b i then i else nextB es d b k (i + 1)
theorem nextB_ok (es : List E) (d : Int → Int) (b : List Int) : ∀ (k i : Nat), (nextB es d b k i = -1 ∧ ∀ j : Nat, i ≤ j → j < i + k → (j : Int) ∉ b → burnSum es b j ≤ d j) ∨ ((i : Int) ≤ nextB es d b k i ∧ nextB es d b k i < i + k ∧ nextB es d b k i ∉ b ∧ d (nextB es d b k i) < burnSum es b (nextB es d b k i))
 | 0, i => .inl ⟨rfl, fun j h0 h1 => by omega⟩
 | k + 1, i => by
  unfold nextB
  by_cases h : (i : Int) ∉ b ∧ d i < burnSum es b i
  ·rw [if_pos h]
   exact .inr ⟨by omega, by omega, h.1, h.2⟩
  ·rw [if_neg h]
   rcases nextB_ok es d b k (i + 1) with ⟨h1, h2⟩ | ⟨h1, h2, h3⟩
   ·refine .inl ⟨h1, fun j h3 h4 h5 => ?_⟩
    by_cases e : j = i
    ·subst e
     apply Classical.byContradiction
     intro hc
     exact h ⟨h5, by omega⟩
    ·exact h2 j (by omega) (by omega) h5
   ·exact .inr ⟨by omega, by omega, h3⟩
def burnW (n : Nat) (es : List E) (d : Int → Int) : Nat → List Int → List Int
 | 0, b => b
 | k + 1, b => if nextB es d b n 0 < 0 then b else burnW n es d k (b ++ [nextB es d b n 0])
def burnF (n : Nat) (es : List E) (d : Int → Int) (q : Int) : List Int := burnW n es d n [q]
def BClosed (n : Nat) (es : List E) (d : Int → Int) (b : List Int) : Prop := ∀ v : Int, 0 ≤ v → v < n → v ∉ b → burnSum es b v ≤ d v
theorem nextB_closed {n : Nat} {es : List E} {d : Int → Int} {b : List Int} (h : nextB es d b n 0 < 0) : BClosed n es d b := by
 rcases nextB_ok es d b n 0 with ⟨_, h2⟩ | ⟨h1, _⟩
 ·intro v h0 h1 hm
  have e : ((v.toNat : Nat) : Int) = v := by omega
  have := h2 v.toNat (by omega) (by omega) (by rw [e]; exact hm)
  rw [e] at this
  exact this
 ·omega
theorem burnW_ok {n : Nat} {es : List E} {d : Int → Int} {q : Int} (hq : 0 ≤ q ∧ q < n) : ∀ (k : Nat) (b : List Int), n + 1 ≤ b.length + k → Burn n es d q b → Burn n es d q (burnW n es d k b) ∧ BClosed n es d (burnW n es d k b)
 | 0, b, hl, h => by have := h.len hq; omega
 | k + 1, b, hl, h => by
  unfold burnW
  by_cases hc : nextB es d b n 0 < 0
  ·rw [if_pos hc]
   exact ⟨h, nextB_closed hc⟩
  ·rw [if_neg hc]
   rcases nextB_ok es d b n 0 with ⟨h1, _⟩ | ⟨h1, h2, h3, h4⟩
   ·omega
   ·exact burnW_ok hq k _ (by simp; omega) (h.step (by omega) (by omega) h3 h4)
theorem burnF_ok {n : Nat} {es : List E} {d : Int → Int} {q : Int} (hq : 0 ≤ q ∧ q < n) : Burn n es d q (burnF n es d q) ∧ BClosed n es d (burnF n es d q) := burnW_ok hq n [q] (by simp; omega) .start
def RedTo (n : Nat) (es : List E) (q : Int) (d x s : Int → Int) : Prop := Red n es q x ∧ s q = 0 ∧ ∀ v : Int, 0 ≤ v → v < n → x v = d v - lap es s v
theorem Red.lt {n : Nat} {es : List E} (hes : ∀ e ∈ es, EOk n e) {q : Int} {d : Int → Int} (h : Red n es q d) {v : Int} (h0 : 0 ≤ v) (h1 : v < n) (hv : v ≠ q) : 0 ≤ d v ∧ d v < val es v := by
 refine ⟨h.1 v h0 h1 hv, ?_⟩
 obtain ⟨w, _, _, hw, hlt⟩ := h.2 (fun x => decide (x = v)) (by simpa using fun e => hv e.symm) ⟨v, h0, h1, by simp⟩
 obtain rfl : w = v := by simpa using hw
 have e : ind (fun x => decide (x = w)) = one w 1 := by
  funext x
  unfold ind one
  by_cases c : x = w <;> simp [c]
 rw [e, lap_one_self hes] at hlt
 omega
end Go.Proofs.Ytnbljcgdgblgoaa.Cf
end

section
namespace Go.Proofs.Ytnbljcgdgblgoaa.Cf
set_option linter.unusedVariables false
set_option linter.unusedSimpArgs false
open Go.Proofs.YtnbljcgdgblgoaaW.PrintWords
theorem rd_set {x : List Int} {i : Int} (h0 : 0 ≤ i) (h1 : i < x.length) (y : Int) {w : Int} (hw : 0 ≤ w) : rd (x.set i.toNat y) w = if w = i then y else rd x w := by
 obtain ⟨a, rfl⟩ := Int.eq_ofNat_of_zero_le h0
 obtain ⟨b, rfl⟩ := Int.eq_ofNat_of_zero_le hw
 simp only [Int.ofNat_eq_natCast, Int.toNat_natCast, rd_nat, List.getD_eq_getElem?_getD] at *
 by_cases c : b = a
 ·subst c
  rw [List.getElem?_set_self (by omega), if_pos rfl]
  rfl
 ·rw [List.getElem?_set_ne (fun y => c y.symm), if_neg (by omega)]
def Bd (x : List Int) (B : Int) : Prop := ∀ w : Int, 0 ≤ w → w < x.length → -B ≤ rd x w ∧ rd x w ≤ B
theorem Bd.mono {x : List Int} {B B' : Int} (h : Bd x B) (hB : B ≤ B') : Bd x B' := fun w h0 h1 => by have := h w h0 h1; omega
def Rep (n : Nat) (c : List Int) (s : Int → Int) : Prop := c.length = n ∧ ∀ w : Int, 0 ≤ w → w < n → rd c w = s w
theorem Rep.ext {n : Nat} {c c' : List Int} {s : Int → Int} (h : Rep n c s) (h' : Rep n c' s) : c = c' := by
 apply List.ext_getElem (by rw [h.1, h'.1])
 intro i h1 h2
 have e := h.2 i (by omega) (by have := h.1; omega)
 have e' := h'.2 i (by omega) (by have := h.1; omega)
 rw [rd_get h1] at e
 rw [rd_get h2] at e'
 rw [e, e']
theorem Rep.congr {n : Nat} {c : List Int} {s t : Int → Int} (h : Rep n c s) (he : ∀ w : Int, 0 ≤ w → w < n → s w = t w) : Rep n c t := ⟨h.1, fun w h0 h1 => (h.2 w h0 h1).trans (he w h0 h1)⟩
theorem Rep.self {n : Nat} {c : List Int} (h : c.length = n) : Rep n c (rd c) := ⟨h, fun _ _ _ => rfl⟩
theorem Rep.set {n : Nat} {c : List Int} {s : Int → Int} (h : Rep n c s) {v : Int} (h0 : 0 ≤ v) (h1 : v < n) (y : Int) : Rep n (c.set v.toNat y) (fun w => if w = v then y else s w) := by
 refine ⟨by rw [List.length_set]; exact h.1, fun w w0 w1 => ?_⟩
 rw [rd_set h0 (by rw [h.1]; exact h1) y w0, h.2 w w0 w1]
theorem rd_replicate (n : Nat) (v : Int) : rd (List.replicate n (0 : Int)) v = 0 := by
 unfold rd
 rw [List.getD_eq_getElem?_getD]
 by_cases h : v.toNat < n
 ·rw [List.getElem?_replicate_of_lt h]; rfl
 ·rw [List.getElem?_eq_none (by simp; omega)]; rfl
theorem Rep.zero (n : Nat) : Rep n (List.replicate n (0 : Int)) (fun _ => 0) := ⟨by simp, fun w _ _ => rd_replicate n w⟩
def repL (n : Nat) (f : Int → Int) : List Int := (List.range n).map fun i : Nat => f (i : Int)
theorem repL_len (n : Nat) (f : Int → Int) : (repL n f).length = n := by simp [repL]
theorem repL_rep (n : Nat) (f : Int → Int) : Rep n (repL n f) f := by
 refine ⟨by simp [repL], fun w h0 h1 => ?_⟩
 obtain ⟨a, rfl⟩ := Int.eq_ofNat_of_zero_le h0
 rw [rd_get (by simp [repL]; omega)]
 simp [repL]
theorem Rep.eq {n : Nat} {c : List Int} {s : Int → Int} (h : Rep n c s) : c = repL n s := h.ext (repL_rep n s)
theorem Rep.bd {n : Nat} {c : List Int} {s : Int → Int} {B : Int} (h : Rep n c s) (hb : ∀ w : Int, 0 ≤ w → w < n → -B ≤ s w ∧ s w ≤ B) : Bd c B := fun w h0 h1 => by
 rw [h.2 w h0 (by have := h.1; omega)]
 exact hb w h0 (by have := h.1; omega)
def Reduced (n : Nat) (es : List E) (q : Int) (d : List Int) (r : List Int × List Int) : Prop := r.1.length = n ∧ r.2.length = n ∧ RedTo n es q (rd d) (rd r.1) (rd r.2)
theorem valG_in {n : Int} {es : List E} {v : Int} (h : 0 ≤ v ∧ v < n) : valG n es v = val es v := by
 unfold valG
 rw [if_pos h]
theorem sum_pick (f : Int → Int) (n : Nat) : ∀ (b : List Int), b.Nodup → (∀ v ∈ b, 0 ≤ v ∧ v < n) → sumN n (fun w => if (w : Int) ∈ b then f w else 0) = (b.map f).sum
 | [], _, _ => by simp [sumN_zero]
 | a :: r, hb, hr => by
  have ha := hr a List.mem_cons_self
  rw [List.map_cons, List.sum_cons, ← sum_pick f n r (List.nodup_cons.1 hb).2 (fun v hv => hr v (List.mem_cons_of_mem _ hv)), ← sumN_one (n := n) a.toNat (by omega) (f a), ← sumN_add]
  apply sumN_congr
  intro i hi
  by_cases e : i = a.toNat
  ·have e' : (i : Int) = a := by omega
   rw [if_pos e, e', if_pos List.mem_cons_self, if_neg (List.nodup_cons.1 hb).1]
   omega
  ·have e' : (i : Int) ≠ a := by omega
   rw [if_neg e]
   simp [e']
end Go.Proofs.Ytnbljcgdgblgoaa.Cf
end

section
namespace Go.Proofs.Ytnbljcgdgblgoaa.Cf
set_option linter.unusedVariables false
set_option linter.unusedSimpArgs false
open Go.RowKit Go.Proofs.YtnbljcgdgblgoaaW.PrintWords Go.Proofs.Ytnbljcgdgblgoaa.P
theorem copy_eq (l : List Int) (h : l.length ≤ 1048576) : impl_copyInts.f l = some l := by
 unfold impl_copyInts.f
 rw [if_pos (by simp; omega)]
 rfl
structure Gr (n : Nat) (es : List E) (q : Int) : Prop where
 n1 : 1 ≤ n
 n6 : n ≤ 6
 hes : ∀ e ∈ es, EOk n e
 hel : es.length ≤ 12
 hj : Joined n es
 hq : 0 ≤ q ∧ q < n
theorem Gr.of {n : Nat} {es : List E} {q : Int} (h : GOk (n : Int) es) (hq : 0 ≤ q ∧ q < n) : Gr n es q := by
 obtain ⟨h1, _, h3⟩ := h
 unfold EsOk at h1
 exact ⟨by omega, by omega, h1.2.2.2, h1.2.2.1, h3, hq⟩
end Go.Proofs.Ytnbljcgdgblgoaa.Cf
end

