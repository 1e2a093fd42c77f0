/- A part of the proof of FnBridges. -/
import Derived.Test.YtdfibdjjoplmmaaBFnBridges3
import Derived.Test.YtdfibdjjoplmmaaBFnBridges0
import Derived.Test.YtdfibdjjoplmmaaBFnBridges2
import Derived.Test.YtdfibdjjoplmmaaBFnBridges1
import Derived.Deep.Slices
import Derived.Lib.SmallJoins
import Derived.ChangeSame
import Derived.Test.YtdfibdjjoplmmaaRows
import Derived.JoinedOf
import Derived.KernelRfl
section
namespace Go.Proofs.Ytdfibdjjoplmmaa.P
open Go.RowKit Go.Proofs.YtdfibdjjoplmmaaW.PrintWords Go.Proofs.YtdfibdjjoplmmaaW.PrintLast Go.Proofs.YtdfibdjjoplmmaaW.PrintMore
attribute [local go_sem] max2_int min2_int max_two min_two max_three min_three max_four min_four
set_option linter.unusedVariables false
set_option linter.unusedSimpArgs false
mutual
def laws_FnBridges.j0 : Nat → List (List Int) → List Int → Bool → Int → List (S67) → Option (Bool)
 | 0, _, _, _, _, _ => none
 | k + 1, x5, x7, x33, x109000, x109001 => if x33 = true then (none) else (laws_FnBridges.l0 k x5 x7 (x109001.length : Int) 0 x109000 x109001)
def laws_FnBridges.l0 : Nat → List (List Int) → List Int → Int → Int → Int → List (S67) → Option (Bool)
 | 0, _, _, _, _, _, _ => none
 | k + 1, x5, x7, x36, x37, x109000, x109001 => if x37 < x36 then (laws_FnBridges.l1 k x5 x7 x37 true x36 x37 x5 (x5.length : Int) 0 x109000 x109001) else (some true)
def laws_FnBridges.l1 : Nat → List (List Int) → List Int → Int → Bool → Int → Int → List (List Int) → Int → Int → Int → List (S67) → Option (Bool)
 | 0, _, _, _, _, _, _, _, _, _, _, _ => none
 | k + 1, x5, x7, x8, x9, x36, x37, x40, x41, x42, x109000, x109001 => if x42 < x41 then (if 0 ≤ x42 then (if x42 < (x40.length : Int) then (if x9 = true then ((laws_has.f k (rd_L3 x40 x42) x8).bind fun t117 => (laws_FnBridges.l1 k x5 x7 x8 t117 x36 x37 x40 x41 (wrap64 (x42 + 1)) x109000 x109001)) else (laws_FnBridges.l1 k x5 x7 x8 false x36 x37 x40 x41 (wrap64 (x42 + 1)) x109000 x109001)) else (none)) else (none)) else ((impl_IsBridge.f k x109000 x109001 x8).bind fun t118 => (if (x9 != t118) = true then (none) else ((laws_has.f k x7 x8).bind fun t119 => (if (x9 != t119) = true then (none) else (laws_FnBridges.l0 k x5 x7 x36 (wrap64 (x37 + 1)) x109000 x109001)))))
end
def laws_FnBridges.f (k : Nat) (l0 : List Int) : Option (Bool) := if (l0.length : Int) > 1048576 then (some true) else ((spec_MakeTree.f k l0).bind fun bt101 => ((impl_TreesOf.f k bt101.1 bt101.2.1).bind fun bt109 => ((impl_BridgesOf.f k bt101.1 bt101.2.1).bind fun t113 => (if bt109.2 = true then (laws_FnBridges.j0 k bt109.1 t113 ((bt109.1.length : Int) == 0) bt101.1 bt101.2.1) else (laws_FnBridges.j0 k bt109.1 t113 true bt101.1 bt101.2.1)))))
theorem laws_FnBridges.mono_l : ∀ k, (∀ y0 y1 y2 y3 y4, LeO (laws_FnBridges.j0 k y0 y1 y2 y3 y4) (laws_FnBridges.j0 (k + 1) y0 y1 y2 y3 y4)) ∧ (∀ y0 y1 y2 y3 y4 y5, LeO (laws_FnBridges.l0 k y0 y1 y2 y3 y4 y5) (laws_FnBridges.l0 (k + 1) y0 y1 y2 y3 y4 y5)) ∧ (∀ y0 y1 y2 y3 y4 y5 y6 y7 y8 y9 y10, LeO (laws_FnBridges.l1 k y0 y1 y2 y3 y4 y5 y6 y7 y8 y9 y10) (laws_FnBridges.l1 (k + 1) y0 y1 y2 y3 y4 y5 y6 y7 y8 y9 y10))
 | 0 => ⟨fun _ _ _ _ _ r h => by simp [laws_FnBridges.j0] at h, fun _ _ _ _ _ _ r h => by simp [laws_FnBridges.l0] at h, fun _ _ _ _ _ _ _ _ _ _ _ r h => by simp [laws_FnBridges.l1] at h⟩
 | k + 1 => by
  obtain ⟨ih0, ih1, ih2⟩ := laws_FnBridges.mono_l k
  refine ⟨?_, ?_, ?_⟩
  ·intro y0 y1 y2 y3 y4
   unfold laws_FnBridges.j0
   exact zm3
  ·intro y0 y1 y2 y3 y4 y5
   unfold laws_FnBridges.l0
   exact zm3
  ·intro y0 y1 y2 y3 y4 y5 y6 y7 y8 y9 y10
   unfold laws_FnBridges.l1
   exact zm3
theorem laws_FnBridges.mono : ∀ a0 k, LeO (laws_FnBridges.f k a0) (laws_FnBridges.f (k + 1) a0) := by
 intro a0 k; obtain ⟨ih0, ih1, ih2⟩ := laws_FnBridges.mono_l k; unfold laws_FnBridges.f; exact zm3
set_option maxHeartbeats 8000000 in
set_option maxRecDepth 100000 in
theorem laws_FnBridges.calls (k : Nat) (A0 : Option Addr) (c0 : Nat) (l0 : List Int) (r : Bool) (w : World) (hr0 : Kd.C (Kd.int .u8) w A0 l0.length l0) (hc0 : l0.length ≤ c0) (h : laws_FnBridges.f k l0 = some r) :
  Calls Try.prog 4 #[.slice A0 l0.length c0] w fun e w' => e = .returned (.bool r) ∧ Below w.heap.size w w' := by
 have hu31 := Try.underlying31; have HR0 := Aside0.mk hr0; have HC0 := Aside0.mk hc0; clear hr0 hc0; have HB := Aside0.mk (Below.refl w.heap.size w); have H : (if (l0.length : Int) > 1048576 then (some true) else ((spec_MakeTree.f k l0).bind fun bt101 => ((impl_TreesOf.f k bt101.1 bt101.2.1).bind fun bt109 => ((impl_BridgesOf.f k bt101.1 bt101.2.1).bind fun t113 => (if bt109.2 = true then (laws_FnBridges.j0 k bt109.1 t113 ((bt109.1.length : Int) == 0) bt101.1 bt101.2.1) else (laws_FnBridges.j0 k bt109.1 t113 true bt101.1 bt101.2.1)))))) = some r := h; clear h; by_cases c2 : (l0.length : Int) > 1048576
 ·rw [if_pos c2] at H; have c2b0 : decide (1048576 < (l0.length : Int)) = true := decide_eq_true c2; have c2b1 : decide (1048576 < l0.length) = true := decide_eq_true (by omega); clear c2; obtain rfl := Option.some.inj H; go_enter Try.func4, Try.ntmps4; go_wp2; go_ret; exact ⟨zz9, zz2⟩
 rw [if_neg c2] at H; have c2b0 : decide (1048576 < (l0.length : Int)) = false := decide_eq_false c2; have c2b1 : decide (1048576 < l0.length) = false := decide_eq_false (by omega); clear c2; replace H := Option.bind_eq_some_iff.mp H; obtain ⟨⟨t101, t102, t105⟩, A30, H⟩ := H; dsimp only at H; have A3 := Aside0.mk A30; clear A30; replace H := Option.bind_eq_some_iff.mp H; obtain ⟨⟨t109, t112⟩, A40, H⟩ := H; dsimp only at H; have A4 := Aside0.mk A40; clear A40; replace H := Option.bind_eq_some_iff.mp H; obtain ⟨t113, A50, H⟩ := H; (try dsimp only at H); have A5 := Aside0.mk A50; clear A50; have HC6 := Aside0.mk H; clear H; go_enter Try.func4, Try.ntmps4; (go_upto_region 6 with (first | ((with_reducible refine gate_callee (f := 16) rfl ?_); refine goesL_ (some 17) rfl rfl Try.func16 (by kernel_rfl) rfl #[.slice A0 l0.length c0] rfl zz3 ?_; (with_reducible refine (spec_MakeTree.calls k _ _ l0 t101 t102 t105 _ ?side1 ?side2 A3.out).mono ?_); (case side1 => exact zz78); (case side2 => exact HC0.out); rintro e w7 ⟨v103, v106, rfl, ho0, ho1, hb⟩; refine ⟨_, rfl, ?_⟩; have n_ := zA3 (Kd.R_lower (Kd.R_mono (ok' := fun k_ => True) ho0 (fun _ hk_ => trivial)) (below_size zz2)) (Kd.V_lower (Kd.V_mono (ok' := fun k_ => some k_ ≠ (v103 : Value).ownBlock) ho1 (fun k_ hk_ => hk_.2)) (below_size zz2)) (below_step zz2 hb); clear HB; obtain ⟨HO104, HO107, HB⟩ := n_; clear ho0 ho1 hb) | ((with_reducible refine gate_dst (N := 3) rfl ?_); (try (refine gate_guard (by rfl) ?_; dsimp only)); refine box_event ?hg (N := 3) ?hd (cs := #[.int .i64 0, .slice none 0 0]) (t := 31) ?hr ?_; (case hd => rfl); (case hg => rfl); (case hr => exact zz18); intro gb108 hg w8 hbox hb; have n_ := zA6 (Kd.R_below zz97 hb) (Kd.V_below (Kd.V_elderB (by (with_reducible repeat (first | apply Kd.V_alloc | apply Kd.V_drewN | apply Kd.V_drew)); exact HO107.out) gb108 (Nat.le_of_eq hg.symm)) hb) (below_step zz2 hb) hbox (zz23 : w.heap.size ≤ gb108) (zz23 : w.heap.size ≤ gb108); clear HO104 HO107 HB; obtain ⟨HO104, HO107, HB, BK108, GW108, GE108⟩ := n_; clear hb hbox hg; have hcz9_0 := zC20 BK108; have hcz9_1 := zC21 BK108; have hfz9_0 := blk_frozen BK108.out 0; have hfz9_1 := blk_frozen BK108.out 1; obtain ⟨Ao10, co10, eo10⟩ := Kd.R_slice HO104.out; subst eo10) | ((with_reducible refine gate_callee (f := 17) rfl ?_); refine goesL_ (some 22) rfl rfl Try.func17 (by kernel_rfl) rfl #[.agg #[.int .i64 t101, .slice Ao10 t102.length co10]] rfl zz3 ?_; (with_reducible refine (impl_TreesOf.calls k t101 _ _ t102 t109 t112 _ ?side1 ?side2 A4.out).mono ?_); (case side1 => refine (Kd.R_reads' (e := 67) (base := w.heap.size) (ok := fun k_ => True) (n := t102.length) (c := co10) ?_).2.2; exact zz129); (case side2 => exact (Kd.R_reads' HO104.out).2.1); rintro e w11 ⟨v110, rfl, ho0, hb⟩; refine ⟨_, rfl, ?_⟩; have n_ := zA5 (Kd.R_below zz129 hb) (Kd.V_elder' (by (with_reducible repeat (first | apply Kd.V_alloc | apply Kd.V_drewN | apply Kd.V_drew)); exact (Kd.V_mono (Kd.V_far (p := ⟨gb108, 1, none⟩) (Kd.V_far (p := ⟨gb108, 0, none⟩) (Kd.V_mono HO107.out (fun k_ hk => (⟨hk, hk.2⟩ : _ ∧ k_ ≠ gb108))) (fun _ hk => hk.2) (.int .i64 t101)) (fun _ hk => hk.2) (.slice Ao10 t102.length co10)) (fun _ h_ => h_.1))) (Kd.S_base ho0) hb) (Kd.S_lower ho0 (below_size zz50)) (blk_below (g := gb108) (o := .cells #[.int .i64 t101, .slice Ao10 t102.length co10] 31 (0, 0)) (by (with_reducible repeat (first | refine blk_drewN ?_ _ | refine blk_drew ?_ | refine blk_alloc ?_ _)); refine blk_put (cs := #[.int .i64 t101, .slice none 0 0]) ?_ 1 _ rfl; (with_reducible repeat (first | refine blk_drewN ?_ _ | refine blk_drew ?_ | refine blk_alloc ?_ _)); refine blk_put (cs := #[.int .i64 0, .slice none 0 0]) ?_ 0 _ rfl; (with_reducible repeat (first | refine blk_drewN ?_ _ | refine blk_drew ?_ | refine blk_alloc ?_ _)); exact BK108.out) hb) (below_step zz50 hb); clear HO104 HO107 BK108 HB; obtain ⟨HO104, HO107, HO111, BK108, HB⟩ := n_; clear ho0 hb; have hcz12_0 := zC20 BK108; have hcz12_1 := zC21 BK108; have hfz12_0 := blk_frozen BK108.out 0; have hfz12_1 := blk_frozen BK108.out 1) | ((with_reducible refine gate_callee (f := 18) rfl ?_); refine goesL_ (some 26) rfl rfl Try.func18 (by kernel_rfl) rfl #[.agg #[.int .i64 t101, .slice Ao10 t102.length co10]] rfl zz3 ?_; (with_reducible refine (impl_BridgesOf.calls k t101 _ _ t102 t113 _ ?side1 ?side2 A5.out).mono ?_); (case side1 => repeat (first | exact (Kd.R_reads' HO104.out).2.2 | (with_reducible refine Kd.C_alloc ?_ _) | (with_reducible refine Kd.C_drewN ?_ _) | (with_reducible refine Kd.C_drew ?_))); (case side2 => exact (Kd.R_reads' HO104.out).2.1); rintro e w13 ⟨v114, rfl, ho0, hb⟩; refine ⟨_, rfl, ?_⟩; have n_ := zA6 (Kd.R_below zz97 hb) (Kd.V_elder' (by (with_reducible repeat (first | apply Kd.V_alloc | apply Kd.V_drewN | apply Kd.V_drew)); exact HO107.out) (Kd.R_base ho0) hb) (Kd.S_elder' (by (with_reducible repeat (first | apply Kd.S_alloc | apply Kd.S_drewN | apply Kd.S_drew)); exact HO111.out) (Kd.R_base ho0) hb) (Kd.R_lower ho0 (below_size zz50)) (blk_below (g := gb108) (o := .cells #[.int .i64 t101, .slice Ao10 t102.length co10] 31 (0, 0)) (by (with_reducible repeat (first | refine blk_drewN ?_ _ | refine blk_drew ?_ | refine blk_alloc ?_ _)); exact BK108.out) hb) (below_step zz50 hb); clear HO104 HO107 HO111 BK108 HB; obtain ⟨HO104, HO107, HO111, HO115, BK108, HB⟩ := n_; clear ho0 hb))); (try simp only [Act.put, List.setIfInBounds_toArray, List.set_cons_zero, List.set_cons_succ]); go_cut [33] (fun v33 wc => ∃ (kq : Nat) (x33_5 : Bool), v33 = .bool x33_5 ∧ Aside0 (laws_FnBridges.j0 kq t109 t113 x33_5 t101 t102 = some r) ∧ Aside0 (kq ≤ k) ∧ Aside0 (Kd.S (Kd.slice 3 (Kd.int .i64)) 39 wc w.heap.size (fun k_ => some k_ ≠ (v114 : Value).ownBlock) v110 t109) ∧ Aside0 (Kd.R (Kd.int .i64) 3 wc w.heap.size (fun _ => True) v114 t113) ∧ Aside0 (Kd.R k67 67 wc w.heap.size (fun _ => True) (.slice Ao10 t102.length co10) t102) ∧ Aside0 (wc.heap[gb108]? = some (.cells #[.int .i64 t101, (.slice Ao10 t102.length co10)] 31 (0, 0))) ∧ Aside0 (Below w.heap.size w wc))
 case first =>
  have H := HC6.out; clear HC6; by_cases c14 : t112 = true; rotate_left
  ·replace c14 := Bool.eq_false_iff.mpr c14; subst c14; rw [if_neg (show ¬ (false = true) by decide)] at H; have H' := Aside0.mk H; clear H; go_wp2; (go_meet); case rel => exact ⟨_, (true), zz7, H', ⟨by first | omega | exact Nat.le_refl _⟩, ⟨by (with_reducible repeat (first | apply Kd.S_alloc | apply Kd.S_drewN | apply Kd.S_drew)); exact Kd.S_mono HO111.out (fun _ hk => hk.2)⟩, ⟨by (with_reducible repeat (first | apply Kd.R_alloc | apply Kd.R_drewN | apply Kd.R_drew)); exact HO115.out⟩, ⟨by (with_reducible repeat (first | apply Kd.R_alloc | apply Kd.R_drewN | apply Kd.R_drew)); exact HO104.out⟩, ⟨zz79⟩, ⟨zz50⟩⟩
  subst c14; rw [if_pos rfl] at H; have H' := Aside0.mk H; clear H; obtain ⟨Ao15, co15, eo15⟩ := Kd.S_slice HO111.out; subst eo15; go_wp2; (go_meet); case rel => exact ⟨_, (((t109.length : Int) == 0)), zz7, H', ⟨by first | omega | exact Nat.le_refl _⟩, ⟨by (with_reducible repeat (first | apply Kd.S_alloc | apply Kd.S_drewN | apply Kd.S_drew)); exact Kd.S_mono HO111.out (fun _ hk => hk.2)⟩, ⟨by (with_reducible repeat (first | apply Kd.R_alloc | apply Kd.R_drewN | apply Kd.R_drew)); exact HO115.out⟩, ⟨by (with_reducible repeat (first | apply Kd.R_alloc | apply Kd.R_drewN | apply Kd.R_drew)); exact HO104.out⟩, ⟨zz79⟩, ⟨zz50⟩⟩
 case rest =>
  clear HC6; (try clear c1); (try clear c2); (try clear c2b0); (try clear c2b1); (try clear p2); (try clear c4); (try clear c14); (try clear hcz12_0); (try clear hcz12_1); (try clear hcz9_0); (try clear hcz9_1); (try clear hfz12_0); (try clear hfz12_1); (try clear hfz9_0); (try clear hfz9_1); obtain ⟨kq, x33_5, rfl, HA, HJ5, HO_5, HO_7, HO_109001, BK108, HB⟩ := hcut
  cases kq with
  | zero => exact absurd HA.out (by simp [laws_FnBridges.j0])
  | succ kj5 =>
   have H := HA.out; clear HA; simp only [laws_FnBridges.j0] at H; by_cases c16 : x33_5 = true
   ·subst c16; rw [if_pos rfl] at H; exact absurd H (by simp)
   replace c16 := Bool.eq_false_iff.mpr c16; subst c16; rw [if_neg (show ¬ (false = true) by decide)] at H; have H' := Aside0.mk H; clear H; have hcz17_0 := zC20 BK108; have hcz17_1 := zC21 BK108; have hfz17_0 := blk_frozen BK108.out 0; have hfz17_1 := blk_frozen BK108.out 1; go_wp2; (go_loopg [37] kj5 (fun kq v37 w' => ∃ (x37_2 : Int), v37 = .int .i64 x37_2 ∧ Aside0 (laws_FnBridges.l0 kq t109 t113 (t102.length : Int) x37_2 t101 t102 = some r) ∧ Aside0 (kq ≤ kj5) ∧ Aside0 (Kd.S (Kd.slice 3 (Kd.int .i64)) 39 w' w.heap.size (fun k_ => some k_ ≠ (v114 : Value).ownBlock) v110 t109) ∧ Aside0 (Kd.R (Kd.int .i64) 3 w' w.heap.size (fun _ => True) v114 t113) ∧ Aside0 (Kd.R k67 67 w' w.heap.size (fun _ => True) (.slice Ao10 t102.length co10) t102) ∧ Aside0 (w'.heap[gb108]? = some (.cells #[.int .i64 t101, (.slice Ao10 t102.length co10)] 31 (0, 0))) ∧ Aside0 (Below w.heap.size w w'))); case atStart => exact ⟨(0), zz7, H', ⟨Nat.le_refl _⟩, ⟨zz101⟩, ⟨zz119⟩, ⟨zz115⟩, ⟨zz79⟩, ⟨zz50⟩⟩
   case round =>
    clear H'; (try clear c1); (try clear c2); (try clear c2b0); (try clear c2b1); (try clear p2); (try clear c4); (try clear c14); (try clear c16); (try clear c17); (try clear hcz12_0); (try clear hcz12_1); (try clear hcz17_0); (try clear hcz17_1); (try clear hcz9_0); (try clear hcz9_1); (try clear hfz12_0); (try clear hfz12_1); (try clear hfz17_0); (try clear hfz17_1); (try clear hfz9_0); (try clear hfz9_1); (try clear p2); obtain ⟨x37_2, rfl, HA, HK2, HO_5, HO_7, HO_109001, BK108, HB⟩ := hrel
    cases gk with
    | zero => exact absurd HA.out (by simp [laws_FnBridges.l0])
    | succ k2 =>
     have H := HA.out; clear HA; simp only [laws_FnBridges.l0] at H; by_cases c18 : x37_2 < (t102.length : Int); rotate_left
     ·rw [if_neg c18] at H; have c18b0 := decide_eq_false c18; (try (have c18b8116_0 := c18b0; first | rw [hl116_0] at c18b8116_0 | rw [← hl116_0] at c18b8116_0)); clear c18; obtain rfl := Option.some.inj H; go_wp2; go_ret; exact ⟨zz9, zz50⟩
     rw [if_pos c18] at H; have c18b0 := decide_eq_true c18; clear c18; have H' := Aside0.mk H; clear H; obtain ⟨Ao19, co19, eo19⟩ := Kd.S_slice HO_5.out; subst eo19; go_wp2; (go_loopg [9, 42] k2 (fun kq v9 v42 w' => ∃ (x9_3 : Bool) (x42_3 : Int), v9 = .bool x9_3 ∧ v42 = .int .i64 x42_3 ∧ Aside0 (laws_FnBridges.l1 kq t109 t113 x37_2 x9_3 (t102.length : Int) x37_2 t109 (t109.length : Int) x42_3 t101 t102 = some r) ∧ Aside0 (kq ≤ k2) ∧ Aside0 (Kd.S (Kd.slice 3 (Kd.int .i64)) 39 w' w.heap.size (fun k_ => some k_ ≠ (v114 : Value).ownBlock) (.slice Ao19 t109.length co19) t109) ∧ Aside0 (Kd.R (Kd.int .i64) 3 w' w.heap.size (fun _ => True) v114 t113) ∧ Aside0 (Kd.S (Kd.slice 3 (Kd.int .i64)) 39 w' w.heap.size (fun k_ => some k_ ≠ (v114 : Value).ownBlock) (.slice Ao19 t109.length co19) t109) ∧ Aside0 (Kd.R k67 67 w' w.heap.size (fun _ => True) (.slice Ao10 t102.length co10) t102) ∧ Aside0 (w'.heap[gb108]? = some (.cells #[.int .i64 t101, (.slice Ao10 t102.length co10)] 31 (0, 0))) ∧ Aside0 (Below w.heap.size w w'))); case atStart => exact ⟨(true), (0), zz7, zz7, H', ⟨Nat.le_refl _⟩, ⟨zz101⟩, ⟨zz119⟩, ⟨zz101⟩, ⟨zz115⟩, ⟨zz79⟩, ⟨zz50⟩⟩
     case round =>
      clear H'; (try clear c1); (try clear c2); (try clear c2b0); (try clear c2b1); (try clear p2); (try clear c4); (try clear c14); (try clear c16); (try clear c17); (try clear c18); (try clear c18b0); (try clear hcz12_0); (try clear hcz12_1); (try clear hcz17_0); (try clear hcz17_1); (try clear hcz9_0); (try clear hcz9_1); (try clear hfz12_0); (try clear hfz12_1); (try clear hfz17_0); (try clear hfz17_1); (try clear hfz9_0); (try clear hfz9_1); (try clear p2); obtain ⟨x9_3, x42_3, rfl, rfl, HA, HK3, HO_5, HO_7, HO_40, HO_109001, BK108, HB⟩ := hrel
      cases gk with
      | zero => exact absurd HA.out (by simp [laws_FnBridges.l1])
      | succ k3 =>
       have H := HA.out; clear HA; simp only [laws_FnBridges.l1] at H; by_cases c20 : x42_3 < (t109.length : Int); rotate_left
       ·rw [if_neg c20] at H; have c20b0 := decide_eq_false c20; (try (have c20b8116_0 := c20b0; first | rw [hl116_0] at c20b8116_0 | rw [← hl116_0] at c20b8116_0)); clear c20; replace H := Option.bind_eq_some_iff.mp H; obtain ⟨t118, A250, H⟩ := H; (try dsimp only at H); have A25 := Aside0.mk A250; clear A250; by_cases c26 : (x9_3 != t118) = true
        ·rw [if_pos c26] at H; exact absurd H (by simp)
        rw [if_neg c26] at H; (have c26b0 : (x9_3 != t118) = false := by simpa using c26); (try (have c26b1 : decide (x9_3 = t118) = true := by simpa using c26)); (try (have c26b2 : (x9_3 == t118) = true := by simpa using c26)); clear c26; replace H := Option.bind_eq_some_iff.mp H; obtain ⟨t119, A270, H⟩ := H; (try dsimp only at H); have A27 := Aside0.mk A270; clear A270; by_cases c28 : (x9_3 != t119) = true
        ·rw [if_pos c28] at H; exact absurd H (by simp)
        rw [if_neg c28] at H; (have c28b0 : (x9_3 != t119) = false := by simpa using c28); (try (have c28b1 : decide (x9_3 = t119) = true := by simpa using c28)); (try (have c28b2 : (x9_3 == t119) = true := by simpa using c28)); clear c28; have H' := Aside0.mk H; clear H; have hcz29_0 := zC20 BK108; have hcz29_1 := zC21 BK108; have hfz29_0 := blk_frozen BK108.out 0; have hfz29_1 := blk_frozen BK108.out 1; (go_wp2_with (first | ((with_reducible refine gate_callee (f := 20) rfl ?_); refine goesL_ (some 56) rfl rfl Try.func20 (by kernel_rfl) rfl #[.agg #[.int .i64 t101, .slice Ao10 t102.length co10], .int .i64 x37_2] rfl zz3 ?_; (with_reducible refine (impl_IsBridge.calls k3 t101 _ _ t102 x37_2 t118 _ ?side1 ?side2 A25.out).mono ?_); (case side1 => repeat (first | exact (Kd.R_reads' HO_109001.out).2.2 | (with_reducible refine Kd.C_alloc ?_ _) | (with_reducible refine Kd.C_drewN ?_ _) | (with_reducible refine Kd.C_drew ?_))); (case side2 => exact (Kd.R_reads' HO_109001.out).2.1); rintro e w30 ⟨rfl, hb⟩; refine ⟨_, rfl, ?_⟩; have n_ := zA6 (Kd.S_below (by (with_reducible repeat (first | apply Kd.S_alloc | apply Kd.S_drewN | apply Kd.S_drew)); exact HO_5.out) hb) (Kd.R_below (by (with_reducible repeat (first | apply Kd.R_alloc | apply Kd.R_drewN | apply Kd.R_drew)); exact HO_7.out) hb) (Kd.S_below (by (with_reducible repeat (first | apply Kd.S_alloc | apply Kd.S_drewN | apply Kd.S_drew)); exact HO_40.out) hb) (Kd.R_below (by (with_reducible repeat (first | apply Kd.R_alloc | apply Kd.R_drewN | apply Kd.R_drew)); exact HO_109001.out) hb) (blk_below (g := gb108) (o := .cells #[.int .i64 t101, .slice Ao10 t102.length co10] 31 (0, 0)) (by (with_reducible repeat (first | refine blk_drewN ?_ _ | refine blk_drew ?_ | refine blk_alloc ?_ _)); exact BK108.out) hb) (below_step zz50 hb); clear HO_5 HO_7 HO_40 HO_109001 BK108 HB; obtain ⟨HO_5, HO_7, HO_40, HO_109001, BK108, HB⟩ := n_; clear hb; obtain ⟨Ao31, co31, eo31⟩ := Kd.R_slice HO_7.out; subst eo31) | (go_at_call 19; (with_reducible refine (laws_has.calls k3 _ _ t113 x37_2 t119 _ ?side1 ?side2 A27.out).mono ?_); (case side1 => repeat (first | exact (Kd.R_reads' HO_7.out).2.2 | (with_reducible refine Kd.C_alloc ?_ _) | (with_reducible refine Kd.C_drewN ?_ _) | (with_reducible refine Kd.C_drew ?_))); (case side2 => exact (Kd.R_reads' HO_7.out).2.1); rintro e w' ⟨rfl, ⟨nd, rfl⟩⟩))); go_roundg k3; (case measure => have := HJ5.out; have := HK2.out; have := HK3.out; omega); case rel => exact ⟨(wrap64 (x37_2 + 1)), zz7, H', ⟨by have := HJ5.out; have := HK2.out; have := HK3.out; omega⟩, ⟨zz101⟩, ⟨zz119⟩, ⟨zz115⟩, ⟨zz79⟩, ⟨zz50⟩⟩
       rw [if_pos c20] at H; have c20b0 := decide_eq_true c20; clear c20; by_cases c21 : 0 ≤ x42_3; rotate_left
       ·rw [if_neg c21] at H; exact absurd H (by simp)
       rw [if_pos c21] at H; have c21b0 := decide_eq_true c21; clear c21; by_cases c22 : x42_3 < (t109.length : Int); rotate_left
       ·rw [if_neg c22] at H; exact absurd H (by simp)
       rw [if_pos c22] at H; have c22b0 := decide_eq_true c22; clear c22; by_cases c23 : x9_3 = true; rotate_left
       ·replace c23 := Bool.eq_false_iff.mpr c23; subst c23; rw [if_neg (show ¬ (false = true) by decide)] at H; have H' := Aside0.mk H; clear H; have p116 : 0 ≤ (x42_3 : Int) := of_decide_eq_true zz4; have q116 : x42_3 < (t109.length : Int) := of_decide_eq_true zz4; obtain ⟨ad116, A116_0, c116_0, e116, hx116_0, hl116_0, hi116_0⟩ := at_L3 (Kd.S_reads' HO_40.out).2.2 x42_3 p116 q116; cases e116; obtain ⟨ce116, hce116, hMe116, hcc116⟩ := Kd.S_get HO_40.out [] x42_3 p116 (by first | exact q116 | exact of_decide_eq_true zz4 | (have e_ := (Kd.S_reads' HO_40.out).1; omega)); obtain ⟨ve116_0, rfl, ge116_0⟩ := hMe116; have hv116_0 := hcc116 0 _ rfl; rw [Nat.add_zero, show ((Kd.slice 3 (Kd.int .i64))).sz = 1 from rfl, Nat.mul_one] at hv116_0; replace hv116_0 := Option.some.inj (hv116_0.symm.trans hx116_0); rw [hv116_0] at ge116_0; have HL116_0 := Aside0.mk (show Kd.R (Kd.int .i64) 3 _ _ _ _ (rd_L3 t109 x42_3) from ge116_0); clear hv116_0 ge116_0; clear hcc116 hce116; have HR116_0 := Aside0.mk hi116_0; have HC116_0 := Aside0.mk hl116_0; clear hi116_0 hl116_0; replace p116 := eq_true p116; replace q116 := eq_true q116; go_wp2; go_roundg k3; (case measure => have := HJ5.out; have := HK2.out; have := HK3.out; omega); case rel => exact ⟨(false), (wrap64 (x42_3 + 1)), zz7, zz7, H', ⟨by have := HJ5.out; have := HK2.out; have := HK3.out; omega⟩, ⟨zz101⟩, ⟨zz119⟩, ⟨by (with_reducible repeat (first | apply Kd.S_alloc | apply Kd.S_drewN | apply Kd.S_drew)); exact HO_40.out⟩, ⟨zz115⟩, ⟨zz79⟩, ⟨zz50⟩⟩
       subst c23; rw [if_pos rfl] at H; replace H := Option.bind_eq_some_iff.mp H; obtain ⟨t117, A240, H⟩ := H; (try dsimp only at H); have A24 := Aside0.mk A240; clear A240; have H' := Aside0.mk H; clear H; have p116 : 0 ≤ (x42_3 : Int) := of_decide_eq_true zz4; have q116 : x42_3 < (t109.length : Int) := of_decide_eq_true zz4; obtain ⟨ad116, A116_0, c116_0, e116, hx116_0, hl116_0, hi116_0⟩ := at_L3 (Kd.S_reads' HO_40.out).2.2 x42_3 p116 q116; cases e116; obtain ⟨ce116, hce116, hMe116, hcc116⟩ := Kd.S_get HO_40.out [] x42_3 p116 (by first | exact q116 | exact of_decide_eq_true zz4 | (have e_ := (Kd.S_reads' HO_40.out).1; omega)); obtain ⟨ve116_0, rfl, ge116_0⟩ := hMe116; have hv116_0 := hcc116 0 _ rfl; rw [Nat.add_zero, show ((Kd.slice 3 (Kd.int .i64))).sz = 1 from rfl, Nat.mul_one] at hv116_0; replace hv116_0 := Option.some.inj (hv116_0.symm.trans hx116_0); rw [hv116_0] at ge116_0; have HL116_0 := Aside0.mk (show Kd.R (Kd.int .i64) 3 _ _ _ _ (rd_L3 t109 x42_3) from ge116_0); clear hv116_0 ge116_0; clear hcc116 hce116; have HR116_0 := Aside0.mk hi116_0; have HC116_0 := Aside0.mk hl116_0; clear hi116_0 hl116_0; replace p116 := eq_true p116; replace q116 := eq_true q116; (go_wp2_with (first | (go_at_call 19; (with_reducible refine (laws_has.calls k3 _ _ (rd_L3 t109 x42_3) x37_2 t117 _ ?side1 ?side2 A24.out).mono ?_); (case side1 => repeat (first | exact (by repeat (first | (with_reducible exact HR116_0.out) | (with_reducible refine Kd.C_alloc ?_ _) | (with_reducible refine Kd.C_drewN ?_ _) | (with_reducible refine Kd.C_drew ?_) | exact HR116_0.out)) | (with_reducible refine Kd.C_alloc ?_ _) | (with_reducible refine Kd.C_drewN ?_ _) | (with_reducible refine Kd.C_drew ?_))); (case side2 => exact HC116_0.out); rintro e w' ⟨rfl, ⟨nd, rfl⟩⟩))); go_roundg k3; (case measure => have := HJ5.out; have := HK2.out; have := HK3.out; omega); case rel => exact ⟨(t117), (wrap64 (x42_3 + 1)), zz7, zz7, H', ⟨by have := HJ5.out; have := HK2.out; have := HK3.out; omega⟩, ⟨zz101⟩, ⟨zz119⟩, ⟨by (with_reducible repeat (first | apply Kd.S_alloc | apply Kd.S_drewN | apply Kd.S_drew)); exact HO_40.out⟩, ⟨zz115⟩, ⟨zz79⟩, ⟨zz50⟩⟩
/-- THE ONE PURE STATEMENT of laws_FnBridges: yours. -/
def laws_FnBridges.Pure : Prop := ∀ (l0 : List Int), l0.length ≤ maxLen → l0.length * 1 ≤ 140737488351232 → (∀ x ∈ l0, (Lit.int .u8 x).wf = true) → ∃ k, laws_FnBridges.f k l0 = some true
theorem laws_FnBridges.walk (P : laws_FnBridges.Pure) (a0 : Option Addr) (len0 cap0 : Nat) (z0 : List Int) (w : World) (w0 : (a0 = none ∧ len0 = 0 ∧ cap0 = 0 ∧ z0 = []) ∨ ∃ x, a0 = some x ∧ len0 ≤ cap0 ∧ cap0 ≤ maxLen ∧ z0.length = cap0 ∧ (∀ i, i < z0.length → w.cell? (x.add i) = some (.int .u8 (z0.getD i 0))) ∧ ∀ n ∈ z0, (Lit.int .u8 n).wf = true) (y0 : len0 * 1 ≤ 140737488351232) :
  Calls Try.prog 4 #[.slice a0 len0 cap0] w fun e w' => e = .returned (.bool true) ∧ Below w.heap.size w w' := by
 obtain ⟨l0, rfl, hr0, hm0, hw0, hc0⟩ := ReadsInt.ofRowC w0; obtain ⟨k, h⟩ := P l0 hm0 y0 hw0; refine (laws_FnBridges.calls k _ _ l0 true w (Kd.C_of_reads (d := (0 : Int)) (h1 := fun _ => rfl) hr0) hc0 h).mono ?_; rintro e w' ⟨rfl, hd⟩; exact ⟨rfl, hd⟩
end Go.Proofs.Ytdfibdjjoplmmaa.P
end

section
namespace Go.Proofs.Ytdfibdjjoplmmaa.Cf
set_option linter.unusedVariables false
set_option linter.unusedSimpArgs false
def sumN : Nat → (Nat → Int) → Int
  | 0, _ => 0
  | n + 1, f => sumN n f + f n
def sumE (es : List E) (f : E → Int) : Int := (es.map f).sum
theorem sumE_nil (f : E → Int) : sumE [] f = 0 := rfl
theorem sumE_cons (e : E) (r : List E) (f : E → Int) : sumE (e :: r) f = f e + sumE r f := by simp [sumE]
theorem sumN_congr {n : Nat} {f g : Nat → Int} (h : ∀ i, i < n → f i = g i) : sumN n f = sumN n g := by
  induction n with
  | zero => rfl
  | succ n ih => simp only [sumN]; rw [ih (fun i hi => h i (by omega)), h n (by omega)]
theorem sumN_add (n : Nat) (f g : Nat → Int) : sumN n (fun i => f i + g i) = sumN n f + sumN n g := by
  induction n with
  | zero => rfl
  | succ n ih => simp only [sumN]; rw [ih]; omega
theorem sumN_zero (n : Nat) : sumN n (fun _ => 0) = 0 := by
  induction n with
  | zero => rfl
  | succ n ih => simp only [sumN]; rw [ih]; rfl
theorem sumN_one {n : Nat} (k : Nat) (hk : k < n) (c : Int) : sumN n (fun i => if i = k then c else 0) = c := by
  induction n with
  | zero => omega
  | succ n ih =>
    simp only [sumN]
    by_cases h : n = k
    · subst h
      rw [if_pos rfl, sumN_congr (g := fun _ => 0) (fun i hi => by rw [if_neg (by omega)]), sumN_zero]
      omega
    · rw [ih (by omega), if_neg h]
      omega
theorem sumE_le {es : List E} {f g : E → Int} (h : ∀ e ∈ es, f e ≤ g e) : sumE es f ≤ sumE es g := by
  induction es with
  | nil => exact Int.le_refl _
  | cons e r ih =>
    rw [sumE_cons, sumE_cons]
    have := ih (fun x hx => h x (List.mem_cons_of_mem _ hx))
    have := h e List.mem_cons_self
    omega
theorem sumE_zero {es : List E} {f : E → Int} (h : ∀ e ∈ es, f e = 0) : sumE es f = 0 := by
  induction es with
  | nil => rfl
  | cons e r ih => rw [sumE_cons, ih (fun x hx => h x (List.mem_cons_of_mem _ hx)), h e List.mem_cons_self]; rfl
theorem sumE_nonneg {es : List E} {f : E → Int} (h : ∀ e ∈ es, 0 ≤ f e) : 0 ≤ sumE es f := by
  have := sumE_le (es := es) (f := fun _ => 0) (g := f) h
  rw [sumE_zero (fun _ _ => rfl)] at this
  exact this
theorem sumE_term {es : List E} {f : E → Int} (h : ∀ e ∈ es, 0 ≤ f e) {e : E} (he : e ∈ es) : f e ≤ sumE es f := by
  induction es with
  | nil => cases he
  | cons a r ih =>
    rw [sumE_cons]
    have h0 := sumE_nonneg (fun x hx => h x (List.mem_cons_of_mem a hx))
    rcases List.mem_cons.1 he with rfl | he
    · omega
    · have := ih (fun x hx => h x (List.mem_cons_of_mem _ hx)) he
      have := h a List.mem_cons_self
      omega
/-- What an edge takes from w when the script s is fired. -/
def lapE (s : Int → Int) (w : Int) (e : E) : Int := (if e.f0 = w then s e.f0 - s e.f1 else 0) + (if e.f1 = w then s e.f1 - s e.f0 else 0)
/-- What w loses when the script s is fired. -/
def lap (es : List E) (s : Int → Int) (w : Int) : Int := sumE es (lapE s w)
def one (v : Int) (t : Int) (w : Int) : Int := if w = v then t else 0
theorem lap_const {es : List E} {s : Int → Int} {c : Int} (h : ∀ e ∈ es, s e.f0 = c ∧ s e.f1 = c) (w : Int) : lap es s w = 0 := by
  apply sumE_zero
  intro e he
  unfold lapE
  rw [(h e he).1, (h e he).2]
  split <;> split <;> omega
def below (n : Nat) (s : Int → Int) (t : Int) : Nat := (List.range n).countP (fun i => decide (s (i : Nat) < t))
def valE (v : Int) (e : E) : Int := if e.f0 = v ∨ e.f1 = v then 1 else 0
/-- The number of edges at a vertex. -/
def val (es : List E) (v : Int) : Int := sumE es (valE v)
def multE (a b : Int) (e : E) : Int := if (e.f0 = a ∧ e.f1 = b) ∨ (e.f0 = b ∧ e.f1 = a) then 1 else 0
/-- The number of edges between two vertices. -/
def mult (es : List E) (a b : Int) : Int := sumE es (multE a b)
theorem val_nonneg (es : List E) (v : Int) : 0 ≤ val es v := sumE_nonneg fun e _ => by unfold valE; split <;> omega
theorem mult_nonneg (es : List E) (a b : Int) : 0 ≤ mult es a b := sumE_nonneg fun e _ => by unfold multE; split <;> omega
theorem sumE_len {es : List E} {f : E → Int} (h : ∀ e ∈ es, f e ≤ 1) : sumE es f ≤ es.length := by
  induction es with
  | nil => simp [sumE]
  | cons e r ih =>
    rw [sumE_cons]
    have := ih (fun x hx => h x (List.mem_cons_of_mem _ hx))
    have := h e List.mem_cons_self
    simp only [List.length_cons]
    omega
theorem val_le (es : List E) (v : Int) : val es v ≤ es.length := sumE_len fun e _ => by unfold valE; split <;> omega
theorem mult_le (es : List E) (a b : Int) : mult es a b ≤ es.length := sumE_len fun e _ => by unfold multE; split <;> omega
theorem leE_trans {a b c : E} (h : leE a b) (k : leE b c) : leE a c := by
  unfold leE at *
  omega
theorem sorted_of_pw {es : List E} (h : es.Pairwise leE) : Sorted es := fun i hi => by
  rw [List.pairwise_iff_getElem] at h
  exact h i (i + 1) (by omega) hi (by omega)
theorem pw_of_sorted : ∀ {es : List E}, Sorted es → es.Pairwise leE
  | [], _ => List.Pairwise.nil
  | a :: r, h => by
    have hr : Sorted r := fun i hi => h (i + 1) (by simpa using hi)
    have ih := pw_of_sorted hr
    refine List.Pairwise.cons (fun b hb => ?_) ih
    cases r with
    | nil => cases hb
    | cons c s =>
      have h0 : leE a c := h 0 (by simp)
      rcases List.mem_cons.1 hb with rfl | hb
      · exact h0
      · exact leE_trans h0 (List.rel_of_pairwise_cons ih hb)
/-- Ahead of the first one that is greater. -/
def insE (e : E) : List E → List E
  | [] => [e]
  | x :: r => if x.f0 > e.f0 ∨ (x.f0 = e.f0 ∧ x.f1 > e.f1) then e :: x :: r else x :: insE e r
theorem insE_mem {e y : E} : ∀ {l : List E}, y ∈ insE e l ↔ y = e ∨ y ∈ l
  | [] => by simp [insE]
  | x :: r => by
    unfold insE
    split
    · simp
    · rw [List.mem_cons, insE_mem (l := r), List.mem_cons]
      constructor
      · rintro (h | h | h)
        · exact .inr (.inl h)
        · exact .inl h
        · exact .inr (.inr h)
      · rintro (h | h | h)
        · exact .inr (.inl h)
        · exact .inl h
        · exact .inr (.inr h)
theorem insE_len (e : E) : ∀ (l : List E), (insE e l).length = l.length + 1
  | [] => rfl
  | x :: r => by
    unfold insE
    split
    · simp
    · simp [insE_len e r]
theorem insE_pw {e : E} : ∀ {l : List E}, l.Pairwise leE → (insE e l).Pairwise leE
  | [], _ => by simp [insE]
  | x :: r, h => by
    unfold insE
    have hx := List.pairwise_cons.1 h
    split
    · rename_i hc
      refine List.Pairwise.cons (fun b hb => ?_) h
      have h1 : leE e x := by unfold leE; omega
      rcases List.mem_cons.1 hb with rfl | hb
      · exact h1
      · exact leE_trans h1 (hx.1 b hb)
    · rename_i hc
      refine List.Pairwise.cons (fun b hb => ?_) (insE_pw hx.2)
      rcases insE_mem.1 hb with rfl | hb
      · unfold leE; omega
      · exact hx.1 b hb
theorem gOk_ins {n : Int} {es : List E} (h : GOk n es) (hl : es.length ≠ 12) {e : E} (he : EOk n e) : GOk n (insE e es) := by
  obtain ⟨⟨h1, h2, h3, h4⟩, h5, h6⟩ := h
  refine ⟨⟨h1, h2, by rw [insE_len]; omega, fun x hx => ?_⟩, sorted_of_pw (insE_pw (pw_of_sorted h5)), fun v h0 h1 => (h6 v h0 h1).sub fun x hx => insE_mem.2 (.inr hx)⟩
  rcases insE_mem.1 hx with rfl | hx
  · exact he
  · exact h4 x hx
def hRow (t : List E) (n a : Nat) : List E := (List.range n).flatMap fun b => if a < b then List.replicate (mult t a b).toNat ⟨a, b⟩ else []
def hEdges (n : Nat) (t : List E) : List E := (List.range n).flatMap (hRow t n)
theorem hRow_mem {t : List E} {n a : Nat} {e : E} : e ∈ hRow t n a ↔ ∃ b, b < n ∧ a < b ∧ 0 < mult t a b ∧ e = ⟨a, b⟩ := by
  unfold hRow
  rw [List.mem_flatMap]
  constructor
  · rintro ⟨b, hb, he⟩
    split at he
    · rename_i hab
      obtain ⟨h1, h2⟩ := List.mem_replicate.1 he
      exact ⟨b, List.mem_range.1 hb, hab, by omega, h2⟩
    · cases he
  · rintro ⟨b, hb, hab, hm, rfl⟩
    refine ⟨b, List.mem_range.2 hb, ?_⟩
    rw [if_pos hab]
    exact List.mem_replicate.2 ⟨by omega, rfl⟩
theorem hEdges_mem {t : List E} {n : Nat} {e : E} : e ∈ hEdges n t ↔ ∃ a b : Nat, a < b ∧ b < n ∧ 0 < mult t a b ∧ e = ⟨a, b⟩ := by
  unfold hEdges
  rw [List.mem_flatMap]
  constructor
  · rintro ⟨a, _, h⟩
    obtain ⟨b, h1, h2, h3, h4⟩ := hRow_mem.1 h
    exact ⟨a, b, h2, h1, h3, h4⟩
  · rintro ⟨a, b, h1, h2, h3, h4⟩
    exact ⟨a, List.mem_range.2 (by omega), hRow_mem.2 ⟨b, h2, h1, h3, h4⟩⟩
theorem hEdges_ok {t : List E} {n : Nat} : ∀ e ∈ hEdges n t, EOk (n : Int) e := by
  intro e he
  obtain ⟨a, b, h1, h2, _, rfl⟩ := hEdges_mem.1 he
  unfold EOk
  simp only
  omega
theorem hEdges_pw (n : Nat) (t : List E) : (hEdges n t).Pairwise leE := by
  unfold hEdges
  rw [List.pairwise_flatMap]
  refine ⟨fun a _ => ?_, ?_⟩
  · unfold hRow
    rw [List.pairwise_flatMap]
    refine ⟨fun b _ => ?_, ?_⟩
    · split
      · refine List.pairwise_replicate.2 (.inr ?_)
        unfold leE
        simp
      · exact List.Pairwise.nil
    · refine List.pairwise_lt_range.imp ?_
      intro b c hbc x hx y hy
      split at hx
      · split at hy
        · rw [List.eq_of_mem_replicate hx, List.eq_of_mem_replicate hy]
          exact .inr ⟨rfl, by show (b : Int) ≤ (c : Int); omega⟩
        · cases hy
      · cases hx
  · refine List.pairwise_lt_range.imp ?_
    intro a c hac x hx y hy
    obtain ⟨_, _, _, _, rfl⟩ := hRow_mem.1 hx
    obtain ⟨_, _, _, _, rfl⟩ := hRow_mem.1 hy
    unfold leE
    simp only
    omega
theorem len_flatMap (f : Nat → List E) : ∀ n : Nat, (((List.range n).flatMap f).length : Int) = sumN n (fun i => ((f i).length : Int))
  | 0 => rfl
  | n + 1 => by
    rw [List.range_succ, List.flatMap_append, List.length_append]
    simp only [sumN, List.flatMap_cons, List.flatMap_nil, List.append_nil]
    rw [← len_flatMap f n]
    omega
theorem hEdges_len {n : Nat} : ∀ {t : List E}, (∀ e ∈ t, EOk (n : Int) e) → (hEdges n t).length = t.length := by
  have key : ∀ t : List E, ((hEdges n t).length : Int) = sumN n (fun a => sumN n (fun b => if a < b then mult t (a : Int) (b : Int) else 0)) := by
    intro t
    unfold hEdges
    rw [len_flatMap]
    apply sumN_congr
    intro a _
    unfold hRow
    rw [len_flatMap]
    apply sumN_congr
    intro b _
    have := mult_nonneg t (a : Int) (b : Int)
    split
    · rw [List.length_replicate]; omega
    · rfl
  intro t
  induction t with
  | nil =>
    intro _
    have := key []
    have hz : sumN n (fun a => sumN n (fun b => if a < b then mult [] (a : Int) (b : Int) else 0)) = 0 := by
      refine (sumN_congr (g := fun _ => 0) fun a _ => ?_).trans (sumN_zero n)
      refine (sumN_congr (g := fun _ => 0) fun b _ => ?_).trans (sumN_zero n)
      split <;> rfl
    rw [hz] at this
    simp only [List.length_nil]
    omega
  | cons e r ih =>
    intro h
    have ih := ih fun x hx => h x (List.mem_cons_of_mem _ hx)
    have he := h e List.mem_cons_self
    unfold EOk at he
    have k1 := key (e :: r)
    have k2 := key r
    have hs : sumN n (fun a => sumN n (fun b => if a < b then mult (e :: r) (a : Int) (b : Int) else 0)) = 1 + sumN n (fun a => sumN n (fun b => if a < b then mult r (a : Int) (b : Int) else 0)) := by
      have h1 : sumN n (fun a => sumN n (fun b => if a = e.f0.toNat ∧ b = e.f1.toNat then (1 : Int) else 0)) = 1 := by
        rw [sumN_congr (g := fun a => if a = e.f0.toNat then (1 : Int) else 0) (fun a _ => ?_), sumN_one e.f0.toNat (by omega)]
        by_cases ha : a = e.f0.toNat
        · rw [if_pos ha, sumN_congr (g := fun b => if b = e.f1.toNat then (1 : Int) else 0) (fun b _ => by simp [ha]), sumN_one e.f1.toNat (by omega)]
        · rw [if_neg ha, sumN_congr (g := fun _ => (0 : Int)) (fun b _ => by rw [if_neg (fun x => ha x.1)]), sumN_zero]
      rw [← h1, ← sumN_add]
      apply sumN_congr
      intro a _
      rw [← sumN_add]
      apply sumN_congr
      intro b _
      have hm : mult (e :: r) (a : Int) (b : Int) = multE (a : Int) (b : Int) e + mult r (a : Int) (b : Int) := sumE_cons _ _ _
      rw [hm]
      unfold multE
      by_cases hab : a < b
      · rw [if_pos hab, if_pos hab]
        by_cases hc : a = e.f0.toNat ∧ b = e.f1.toNat
        · rw [if_pos hc, if_pos (.inl ⟨by omega, by omega⟩)]
        · rw [if_neg hc, if_neg (by omega)]
      · rw [if_neg hab, if_neg hab, if_neg (by omega)]
        rfl
    rw [List.length_cons]
    omega
/-- The edges (a, 1), (b, 2), .. of a tree, each from a lesser vertex. -/
structure TreeE (v : Nat) (t : List E) : Prop where
  ok : ∀ e ∈ t, EOk (v : Int) e
  len : t.length + 1 = v
  up : ∀ w : Nat, 0 < w → w < v → ∃ a : Nat, a < w ∧ (⟨(a : Int), (w : Int)⟩ : E) ∈ t
theorem TreeE.start : TreeE 1 [] := ⟨fun e he => (by cases he), rfl, fun w h0 h1 => by omega⟩
theorem TreeE.next {v : Nat} {t : List E} (h : TreeE v t) {a : Int} (h0 : 0 ≤ a) (h1 : a < v) : TreeE (v + 1) (t ++ [⟨a, v⟩]) where
  ok := fun e he => by
    rcases List.mem_append.1 he with he | he
    · have := h.ok e he
      unfold EOk at *
      omega
    · rw [List.mem_singleton.1 he]
      unfold EOk
      simp only
      omega
  len := by rw [List.length_append]; simp; exact h.len
  up := fun w w0 w1 => by
    by_cases c : w < v
    · obtain ⟨b, hb, hm⟩ := h.up w w0 c
      exact ⟨b, hb, List.mem_append_left _ hm⟩
    · obtain rfl : w = v := by omega
      refine ⟨a.toNat, by omega, List.mem_append_right _ ?_⟩
      have e : ((a.toNat : Nat) : Int) = a := by omega
      rw [e]
      exact List.mem_singleton.2 rfl
theorem TreeE.gOk {n : Nat} {t : List E} (h : TreeE n t) (hn : n ≤ 6) : GOk (n : Int) (hEdges n t) := by
  have hl := hEdges_len h.ok
  have hlen := h.len
  refine ⟨⟨by omega, by omega, by omega, hEdges_ok⟩, sorted_of_pw (hEdges_pw n t), ?_⟩
  have key : ∀ w : Nat, w < n → Conn (hEdges n t) 0 (w : Int) := by
    intro w
    induction w using Nat.strongRecOn with
    | _ w ih =>
      intro hw
      by_cases w0 : w = 0
      · subst w0; exact .refl
      · obtain ⟨a, ha, hm⟩ := h.up w (by omega) hw
        have hc := ih a ha (by omega)
        have hmem : (⟨(a : Int), (w : Int)⟩ : E) ∈ hEdges n t := by
          refine hEdges_mem.2 ⟨a, w, ha, hw, ?_, rfl⟩
          have h1 := sumE_term (es := t) (f := multE (a : Int) (w : Int)) (fun e _ => by unfold multE; split <;> omega) hm
          have h2 : multE (a : Int) (w : Int) ⟨(a : Int), (w : Int)⟩ = 1 := by unfold multE; simp
          unfold mult
          omega
        exact hc.tail ⟨_, hmem, .inl ⟨rfl, rfl⟩⟩
  intro v h0 h1
  obtain ⟨w, rfl⟩ := Int.eq_ofNat_of_zero_le h0
  exact key w (by omega)
end Go.Proofs.Ytdfibdjjoplmmaa.Cf
end

section
namespace Go.Proofs.Ytdfibdjjoplmmaa.Cf
set_option linter.unusedVariables false
set_option linter.unusedSimpArgs false
open Go.RowKit Go.Proofs.YtdfibdjjoplmmaaW.PrintWords Go.Proofs.Ytdfibdjjoplmmaa.P
theorem forall_drop' {α : Type} {l : List α} {P : α → Prop} {i : Nat} (h : i < l.length) : (∀ e ∈ l.drop i, P e) ↔ (P l[i] ∧ ∀ e ∈ l.drop (i + 1), P e) := by
  rw [List.drop_eq_getElem_cons h]
  simp only [List.mem_cons, forall_eq_or_imp]
theorem implGraph (n : Int) (es : List E) : impl_GraphOk.f n es = some (gOk n es) := rfl
theorem gOk_true {n : Int} {es : List E} (h : gOk n es = true) : GOk n es := gOk_iff.1 h
theorem gOk_false {n : Int} {es : List E} (h : ¬ gOk n es = true) : ¬ GOk n es := fun x => h (gOk_iff.2 x)
theorem allWithin_l0 (a b : Int) (l : List Int) (hl : l.length ≤ 1048576) : ∀ (d i : Nat), i + d = l.length → Ep (fun k => impl_allWithin.l0 k a b l (l.length : Int) (i : Int)) (· = decide (∀ x ∈ l.drop i, a ≤ x ∧ x ≤ b)) := by
  intro d
  induction d with
  | zero =>
    intro i hi
    refine Ep.up ?_
    simp only [impl_allWithin.l0]
    refine Ep.neg (by omega) (Ep.now ?_)
    rw [List.drop_of_length_le (by omega)]
    simp
  | succ d ih =>
    intro i hi
    have hlt : i < l.length := by omega
    refine Ep.up ?_
    simp only [impl_allWithin.l0]
    refine Ep.pos (by omega) (Ep.pos (by omega) (Ep.pos (by omega) ?_))
    rw [rd_get hlt, wrap_succ (by omega)]
    refine Ep.bind0 (within_eq _ _ _) ?_
    refine Ep.ite (fun h => ?_) (fun h => Ep.now ?_)
    · have h' : a ≤ l[i] ∧ l[i] ≤ b := by simpa using h
      refine (ih (i + 1) (by omega)).mono ?_
      rintro _ rfl
      simp only [forall_drop' hlt, h', true_and]
    · have h' : ¬ (a ≤ l[i] ∧ l[i] ≤ b) := by simpa using h
      simp only [forall_drop' hlt, h', false_and, decide_false]
theorem allWithin_ok (l : List Int) (a b : Int) (hl : l.length ≤ 1048576) : Ep (fun k => impl_allWithin.f k l a b) (· = decide (∀ x ∈ l, a ≤ x ∧ x ≤ b)) := by
  have := allWithin_l0 a b l hl l.length 0 (by omega)
  simp only [impl_allWithin.f]
  rw [List.drop_zero] at this
  exact this
theorem isVertex_eq (n : Int) (es : List E) (v : Int) (hn : Wf .i64 n) : impl_isVertex.f n es v = some (gOk n es && decide (0 ≤ v ∧ v < n)) := by
  unfold impl_isVertex.f
  rw [implGraph]
  simp only [Option.bind_some]
  by_cases h : gOk n es = true
  · have h1 := (gOk_true h).1.1
    have h6 := (gOk_true h).1.2.1
    rw [if_pos h, wrap_id (by omega) (by omega), within_eq, h]
    simp only [Option.bind_some, Bool.true_and]
    have : (0 ≤ v ∧ v ≤ n - 1) ↔ (0 ≤ v ∧ v < n) := by omega
    simp only [this]
  · rw [if_neg h]
    have : gOk n es = false := by simpa using h
    rw [this]
    rfl
/-- The edge with this index is at v. -/
def At (es : List E) (k v : Int) : Prop := ∃ j : Nat, k = j ∧ ∃ h : j < es.length, es[j].f0 = v ∨ es[j].f1 = v
theorem At.of {es : List E} {j : Nat} {v : Int} (hj : j < es.length) : At es (j : Int) v ↔ (es[j].f0 = v ∨ es[j].f1 = v) := by
  constructor
  · rintro ⟨i, hi, h, hx⟩
    have : i = j := by omega
    subst this
    exact hx
  · intro h
    exact ⟨j, rfl, hj, h⟩
/-- The valence, 0 where there is no such vertex. -/
def valG (n : Int) (es : List E) (v : Int) : Int := if 0 ≤ v ∧ v < n then val es v else 0
theorem val_drop {es : List E} {i : Nat} (h : i < es.length) (v : Int) : val (es.drop i) v = valE v es[i] + val (es.drop (i + 1)) v := by
  rw [List.drop_eq_getElem_cons h]
  exact sumE_cons _ _ _
theorem specVal_loop (v : Int) (es : List E) (hl : es.length ≤ 1048576) : ∀ (d i : Nat) (a : Int), i + d = es.length → 0 ≤ a → a ≤ i → Ep (fun k => spec_Valence.l0 k v a es (es.length : Int) (i : Int)) (· = a + val (es.drop i) v) := by
  intro d
  induction d with
  | zero =>
    intro i a hi h0 ha
    refine Ep.up ?_
    simp only [spec_Valence.l0]
    refine Ep.neg (by omega) (Ep.now ?_)
    rw [List.drop_of_length_le (by omega)]
    simp [val, sumE]
  | succ d ih =>
    intro i a hi h0 ha
    have hlt : i < es.length := by omega
    refine Ep.up ?_
    simp only [spec_Valence.l0]
    refine Ep.pos (by omega) (Ep.pos (by omega) (Ep.pos (by omega) ?_))
    rw [rdE_get hlt, wrap_succ (by omega), wrap_id (x := a + 1) (by omega) (by omega), val_drop hlt]
    refine Ep.ite (fun h => ?_) (fun h => Ep.ite (fun h2 => ?_) (fun h2 => ?_))
    · refine (ih (i + 1) (a + 1) (by omega) (by omega) (by omega)).mono ?_
      rintro _ rfl
      unfold valE
      rw [if_pos (.inl h)]
      omega
    · refine (ih (i + 1) (a + 1) (by omega) (by omega) (by omega)).mono ?_
      rintro _ rfl
      unfold valE
      rw [if_pos (.inr h2)]
      omega
    · refine (ih (i + 1) a (by omega) h0 (by omega)).mono ?_
      rintro _ rfl
      unfold valE
      rw [if_neg (by rintro (x | x); exact h x; exact h2 x)]
      omega
theorem specValence (n : Int) (es : List E) (v : Int) (hl : es.length ≤ 1048576) : Ep (fun k => spec_Valence.f k n es v) (· = valG n es v) := by
  have hv : spec_l02Vert.f n es v = some (decide (0 ≤ v ∧ v < n)) := by
    unfold spec_l02Vert.f
    by_cases h : v ≥ 0
    · rw [if_pos h]
      have : (0 ≤ v ∧ v < n) ↔ v < n := ⟨fun x => x.2, fun x => ⟨h, x⟩⟩
      simp only [this]
    · rw [if_neg h]
      have : ¬ (0 ≤ v ∧ v < n) := fun x => h x.1
      simp only [this, decide_false]
  simp only [spec_Valence.f, valG]
  refine Ep.bind0 hv (Ep.ite (fun h => ?_) (fun h => Ep.now ?_))
  · refine (specVal_loop v es hl es.length 0 0 (by omega) (by omega) (by omega)).mono ?_
    rintro _ rfl
    rw [if_pos (by simpa using h), List.drop_zero]
    omega
  · rw [if_neg (by simpa using h)]
theorem implVal_loop (v : Int) (es : List E) (hl : es.length ≤ 1048576) : ∀ (d i : Nat) (a : Int), i + d = es.length → 0 ≤ a → a ≤ i → Ep (fun k => impl_Valence.l0 k v a es (es.length : Int) (i : Int)) (· = a + val (es.drop i) v) := by
  intro d
  induction d with
  | zero =>
    intro i a hi h0 ha
    refine Ep.up ?_
    simp only [impl_Valence.l0]
    refine Ep.neg (by omega) (Ep.now ?_)
    rw [List.drop_of_length_le (by omega)]
    simp [val, sumE]
  | succ d ih =>
    intro i a hi h0 ha
    have hlt : i < es.length := by omega
    refine Ep.up ?_
    simp only [impl_Valence.l0]
    refine Ep.pos (by omega) (Ep.pos (by omega) (Ep.pos (by omega) ?_))
    rw [rdE_get hlt, wrap_succ (by omega), wrap_id (x := a + 1) (by omega) (by omega), val_drop hlt]
    refine Ep.ite (fun h => ?_) (fun h => Ep.ite (fun h2 => ?_) (fun h2 => ?_))
    · refine (ih (i + 1) (a + 1) (by omega) (by omega) (by omega)).mono ?_
      rintro _ rfl
      unfold valE
      rw [if_pos (.inl h)]
      omega
    · refine (ih (i + 1) (a + 1) (by omega) (by omega) (by omega)).mono ?_
      rintro _ rfl
      unfold valE
      rw [if_pos (.inr h2)]
      omega
    · refine (ih (i + 1) a (by omega) h0 (by omega)).mono ?_
      rintro _ rfl
      unfold valE
      rw [if_neg (by rintro (x | x); exact h x; exact h2 x)]
      omega
theorem implValence (n : Int) (es : List E) (v : Int) (hl : es.length ≤ 1048576) : Ep (fun k => impl_Valence.f k n es v) (· = valG n es v) := by
  simp only [impl_Valence.f, valG]
  refine Ep.ite (fun h => ?_) (fun h => ?_)
  · refine Ep.up ?_
    simp only [impl_Valence.j0]
    refine Ep.pos trivial (Ep.now ?_)
    rw [if_neg (by omega)]
  · refine Ep.up ?_
    simp only [impl_Valence.j0]
    refine Ep.ite (fun h2 => Ep.now ?_) (fun h2 => ?_)
    · have : v ≥ n := by simpa using h2
      rw [if_neg (by omega)]
    · have : ¬ v ≥ n := by simpa using h2
      refine (implVal_loop v es hl es.length 0 0 (by omega) (by omega) (by omega)).mono ?_
      rintro _ rfl
      rw [if_pos (by omega), List.drop_zero]
      omega
end Go.Proofs.Ytdfibdjjoplmmaa.Cf
end

section
namespace Go.Proofs.Ytdfibdjjoplmmaa.Cf
set_option linter.unusedVariables false
set_option linter.unusedSimpArgs false
/-- The edges from v to a list of vertices. -/
def burnSum (es : List E) (b : List Int) (v : Int) : Int := (b.map (mult es v)).sum
inductive Burn (n : Nat) (es : List E) (d : Int → Int) (q : Int) : List Int → Prop
  | start : Burn n es d q [q]
  | step {b : List Int} {v : Int} : Burn n es d q b → 0 ≤ v → v < n → v ∉ b → d v < burnSum es b v → Burn n es d q (b ++ [v])
theorem Burn.ok {n : Nat} {es : List E} {d : Int → Int} {q : Int} {b : List Int} (hq : 0 ≤ q ∧ q < n) (h : Burn n es d q b) : b.Nodup ∧ (∀ v ∈ b, 0 ≤ v ∧ v < n) ∧ q ∈ b := by
  induction h with
  | start => exact ⟨by simp, fun v hv => by rw [List.mem_singleton.1 hv]; exact hq, by simp⟩
  | @step b v _ h0 h1 hv _ ih =>
    refine ⟨?_, fun x hx => ?_, List.mem_append_left _ ih.2.2⟩
    · rw [List.nodup_append]
      exact ⟨ih.1, by simp, fun a ha c hc => by
        rw [List.mem_singleton.1 hc]
        rintro rfl
        exact hv ha⟩
    · rcases List.mem_append.1 hx with hx | hx
      · exact ih.2.1 x hx
      · rw [List.mem_singleton.1 hx]
        exact ⟨h0, h1⟩
theorem sum_ind (x : Int) : ∀ (b : List Int), b.Nodup → (b.map (fun w => if x = w then (1 : Int) else 0)).sum = if x ∈ b then 1 else 0
  | [], _ => by simp
  | a :: r, h => by
    have ih := sum_ind x r (List.nodup_cons.1 h).2
    have hn := (List.nodup_cons.1 h).1
    simp only [List.map_cons, List.sum_cons, ih, List.mem_cons]
    by_cases e : x = a
    · subst e
      simp [hn]
    · simp [e]
theorem sum_add (b : List Int) (f g : Int → Int) : (b.map (fun w => f w + g w)).sum = (b.map f).sum + (b.map g).sum := by
  induction b with
  | nil => rfl
  | cons a r ih => simp only [List.map_cons, List.sum_cons, ih]; omega
structure Sets (n : Nat) (es : List E) (q : Int) (d u : Int → Int) : Prop where
  pos : ∀ w, 0 ≤ u w
  at_q : u q = 0
  keeps : ∀ v : Int, 0 ≤ v → v < n → v ≠ q → 0 ≤ d v - lap es u v
theorem Sets.zero {n : Nat} {es : List E} {q : Int} {d : Int → Int} (h : ∀ v : Int, 0 ≤ v → v < n → v ≠ q → 0 ≤ d v) : Sets n es q d (fun _ => 0) where
  pos := fun _ => Int.le_refl _
  at_q := rfl
  keeps := fun v h0 h1 h2 => by
    rw [lap_const (c := 0) (fun _ _ => ⟨rfl, rfl⟩)]
    have := h v h0 h1 h2
    omega
end Go.Proofs.Ytdfibdjjoplmmaa.Cf
end

section
namespace Go.Proofs.Ytdfibdjjoplmmaa.Cf
set_option linter.unusedVariables false
set_option linter.unusedSimpArgs false
open Go.Proofs.YtdfibdjjoplmmaaW.PrintWords
theorem rd_set {x : List Int} {i : Int} (h0 : 0 ≤ i) (h1 : i < x.length) (y : Int) {w : Int} (hw : 0 ≤ w) : rd (x.set i.toNat y) w = if w = i then y else rd x w := by
  obtain ⟨a, rfl⟩ := Int.eq_ofNat_of_zero_le h0
  obtain ⟨b, rfl⟩ := Int.eq_ofNat_of_zero_le hw
  simp only [Int.ofNat_eq_natCast, Int.toNat_natCast, rd_nat, List.getD_eq_getElem?_getD] at *
  by_cases c : b = a
  · subst c
    rw [List.getElem?_set_self (by omega), if_pos rfl]
    rfl
  · rw [List.getElem?_set_ne (fun y => c y.symm), if_neg (by omega)]
/-- A list's numbers lie between -B and B. -/
def Bd (x : List Int) (B : Int) : Prop := ∀ w : Int, 0 ≤ w → w < x.length → -B ≤ rd x w ∧ rd x w ≤ B
theorem Bd.mono {x : List Int} {B B' : Int} (h : Bd x B) (hB : B ≤ B') : Bd x B' := fun w h0 h1 => by have := h w h0 h1; omega
/-- The list c tells s on the first n numbers. -/
def Rep (n : Nat) (c : List Int) (s : Int → Int) : Prop := c.length = n ∧ ∀ w : Int, 0 ≤ w → w < n → rd c w = s w
theorem Rep.ext {n : Nat} {c c' : List Int} {s : Int → Int} (h : Rep n c s) (h' : Rep n c' s) : c = c' := by
  apply List.ext_getElem (by rw [h.1, h'.1])
  intro i h1 h2
  have e := h.2 i (by omega) (by have := h.1; omega)
  have e' := h'.2 i (by omega) (by have := h.1; omega)
  rw [rd_get h1] at e
  rw [rd_get h2] at e'
  rw [e, e']
theorem Rep.congr {n : Nat} {c : List Int} {s t : Int → Int} (h : Rep n c s) (he : ∀ w : Int, 0 ≤ w → w < n → s w = t w) : Rep n c t := ⟨h.1, fun w h0 h1 => (h.2 w h0 h1).trans (he w h0 h1)⟩
theorem Rep.set {n : Nat} {c : List Int} {s : Int → Int} (h : Rep n c s) {v : Int} (h0 : 0 ≤ v) (h1 : v < n) (y : Int) : Rep n (c.set v.toNat y) (fun w => if w = v then y else s w) := by
  refine ⟨by rw [List.length_set]; exact h.1, fun w w0 w1 => ?_⟩
  rw [rd_set h0 (by rw [h.1]; exact h1) y w0, h.2 w w0 w1]
theorem rd_replicate (n : Nat) (v : Int) : rd (List.replicate n (0 : Int)) v = 0 := by
  unfold rd
  rw [List.getD_eq_getElem?_getD]
  by_cases h : v.toNat < n
  · rw [List.getElem?_replicate_of_lt h]; rfl
  · rw [List.getElem?_eq_none (by simp; omega)]; rfl
theorem Rep.zero (n : Nat) : Rep n (List.replicate n (0 : Int)) (fun _ => 0) := ⟨by simp, fun w _ _ => rd_replicate n w⟩
/-- The list of a function's first n values. -/
def repL (n : Nat) (f : Int → Int) : List Int := (List.range n).map fun i : Nat => f (i : Int)
theorem repL_len (n : Nat) (f : Int → Int) : (repL n f).length = n := by simp [repL]
theorem repL_rep (n : Nat) (f : Int → Int) : Rep n (repL n f) f := by
  refine ⟨by simp [repL], fun w h0 h1 => ?_⟩
  obtain ⟨a, rfl⟩ := Int.eq_ofNat_of_zero_le h0
  rw [rd_get (by simp [repL]; omega)]
  simp [repL]
theorem Rep.eq {n : Nat} {c : List Int} {s : Int → Int} (h : Rep n c s) : c = repL n s := h.ext (repL_rep n s)
theorem valG_in {n : Int} {es : List E} {v : Int} (h : 0 ≤ v ∧ v < n) : valG n es v = val es v := by
  unfold valG
  rw [if_pos h]
end Go.Proofs.Ytdfibdjjoplmmaa.Cf
end

section
namespace Go.Proofs.Ytdfibdjjoplmmaa.Cf
set_option linter.unusedVariables false
set_option linter.unusedSimpArgs false
open Go.RowKit Go.Proofs.YtdfibdjjoplmmaaW.PrintWords Go.Proofs.Ytdfibdjjoplmmaa.P
/-- Where the graph is valid. -/
structure Gr (n : Nat) (es : List E) (q : Int) : Prop where
  n1 : 1 ≤ n
  n6 : n ≤ 6
  hes : ∀ e ∈ es, EOk n e
  hel : es.length ≤ 12
  hj : Joined n es
  hq : 0 ≤ q ∧ q < n
theorem Gr.of {n : Nat} {es : List E} {q : Int} (h : GOk (n : Int) es) (hq : 0 ≤ q ∧ q < n) : Gr n es q := by
  obtain ⟨h1, _, h3⟩ := h
  unfold EsOk at h1
  exact ⟨by omega, by omega, h1.2.2.2, h1.2.2.1, h3, hq⟩
end Go.Proofs.Ytdfibdjjoplmmaa.Cf
end

section
namespace Go.Proofs.Ytdfibdjjoplmmaa.Cf
set_option linter.unusedVariables false
set_option linter.unusedSimpArgs false
open Go.RowKit Go.Proofs.YtdfibdjjoplmmaaW.PrintWords Go.Proofs.YtdfibdjjoplmmaaW.PrintMore Go.Proofs.Ytdfibdjjoplmmaa.P
theorem multE_alt {n : Int} {e : E} (h : EOk n e) {a b : Int} (hab : a ≠ b) : multE a b e = if e.f0 = mn a b ∧ e.f1 = mx a b then 1 else 0 := by
  unfold EOk at h
  unfold multE mn mx
  by_cases c : b < a
  · rw [if_pos c, if_neg (show ¬ a < b by omega)]
    by_cases x : e.f0 = b ∧ e.f1 = a
    · rw [if_pos (.inr x), if_pos x]
    · rw [if_neg (by omega), if_neg x]
  · rw [if_neg c, if_pos (show a < b by omega)]
    by_cases x : e.f0 = a ∧ e.f1 = b
    · rw [if_pos (.inl x), if_pos x]
    · rw [if_neg (by omega), if_neg x]
theorem mult_self {n : Int} {es : List E} (hes : ∀ e ∈ es, EOk n e) (a : Int) : mult es a a = 0 := by
  apply sumE_zero
  intro e he
  have h := hes e he
  unfold EOk at h
  unfold multE
  rw [if_neg (by omega)]
theorem mult_drop {es : List E} {i : Nat} (h : i < es.length) (a b : Int) : mult (es.drop i) a b = multE a b es[i] + mult (es.drop (i + 1)) a b := by
  rw [List.drop_eq_getElem_cons h]
  exact sumE_cons _ _ _
theorem specMult_l0 (n : Int) (es : List E) (hes : ∀ e ∈ es, EOk n e) (hel : es.length ≤ 12) (a b : Int) (hab : a ≠ b) : ∀ (d i : Nat) (c : Int), i + d = es.length → 0 ≤ c → c ≤ i → Ep (fun k => spec_Multiplicity.l0 k a b c es (es.length : Int) (i : Int)) (· = c + mult (es.drop i) a b) := by
  intro d
  induction d with
  | zero =>
    intro i c hi h0 h1
    refine Ep.up ?_
    simp only [spec_Multiplicity.l0]
    refine Ep.neg (by omega) (Ep.now ?_)
    rw [List.drop_of_length_le (by omega)]
    simp [mult, sumE]
  | succ d ih =>
    intro i c hi h0 h1
    have hlt : i < es.length := by omega
    have hk := hes _ (List.getElem_mem hlt)
    refine Ep.up ?_
    simp only [spec_Multiplicity.l0]
    refine Ep.pos (by omega) (Ep.pos (by omega) (Ep.pos (by omega) ?_))
    rw [rdE_get hlt, wrap_succ (by omega), wrap_id (x := c + 1) (by omega) (by omega), mult_drop hlt, multE_alt hk hab]
    refine Ep.ite (fun h => Ep.ite (fun h2 => ?_) (fun h2 => ?_)) (fun h => ?_)
    · rw [if_pos ⟨h, h2⟩]
      refine (ih (i + 1) (c + 1) (by omega) (by omega) (by omega)).mono ?_
      rintro _ rfl
      omega
    · rw [if_neg (fun x => h2 x.2)]
      refine (ih (i + 1) c (by omega) (by omega) (by omega)).mono ?_
      rintro _ rfl
      omega
    · rw [if_neg (fun x => h x.1)]
      refine (ih (i + 1) c (by omega) (by omega) (by omega)).mono ?_
      rintro _ rfl
      omega
theorem l02Vert_eq (n : Int) (es : List E) (v : Int) : spec_l02Vert.f n es v = some (decide (0 ≤ v ∧ v < n)) := by
  unfold spec_l02Vert.f
  by_cases h : v ≥ 0
  · rw [if_pos h]
    have : (0 ≤ v ∧ v < n) ↔ v < n := ⟨fun x => x.2, fun x => ⟨h, x⟩⟩
    simp only [this]
  · rw [if_neg h]
    have : ¬ (0 ≤ v ∧ v < n) := fun x => h x.1
    simp only [this, decide_false]
theorem specMult (n : Int) (es : List E) (hes : ∀ e ∈ es, EOk n e) (hel : es.length ≤ 12) (a b : Int) (ha : 0 ≤ a ∧ a < n) (hb : 0 ≤ b ∧ b < n) : Ep (fun k => spec_Multiplicity.f k n es a b) (· = mult es a b) := by
  simp only [spec_Multiplicity.f]
  refine Ep.bind0 (l02Vert_eq _ _ _) (Ep.pos (by simpa using ha) (Ep.bind0 (l02Vert_eq _ _ _) (Ep.pos (by simpa using hb) ?_)))
  refine Ep.up ?_
  simp only [spec_Multiplicity.j0]
  refine Ep.ite (fun h => Ep.now ?_) (fun h => ?_)
  · have : a = b := by simpa using h
    rw [this, mult_self hes]
  · have hab : a ≠ b := by simpa using h
    refine (specMult_l0 n es hes hel a b hab es.length 0 0 (by omega) (by omega) (by omega)).mono ?_
    rintro _ rfl
    simp
theorem implMult_l0 (n : Int) (es : List E) (hes : ∀ e ∈ es, EOk n e) (hel : es.length ≤ 12) (a b : Int) (hab : a ≠ b) : ∀ (d i : Nat) (c : Int), i + d = es.length → 0 ≤ c → c ≤ i → Ep (fun k => impl_Multiplicity.l0 k a b c es (es.length : Int) (i : Int)) (· = c + mult (es.drop i) a b) := by
  intro d
  induction d with
  | zero =>
    intro i c hi h0 h1
    refine Ep.up ?_
    simp only [impl_Multiplicity.l0]
    refine Ep.neg (by omega) (Ep.now ?_)
    rw [List.drop_of_length_le (by omega)]
    simp [mult, sumE]
  | succ d ih =>
    intro i c hi h0 h1
    have hlt : i < es.length := by omega
    have hk := hes _ (List.getElem_mem hlt)
    refine Ep.up ?_
    simp only [impl_Multiplicity.l0]
    refine Ep.pos (by omega) (Ep.pos (by omega) (Ep.pos (by omega) ?_))
    rw [rdE_get hlt, wrap_succ (by omega), wrap_id (x := c + 1) (by omega) (by omega), mult_drop hlt, multE_alt hk hab]
    refine Ep.ite (fun h => Ep.ite (fun h2 => ?_) (fun h2 => ?_)) (fun h => ?_)
    · rw [if_pos ⟨h, h2⟩]
      refine (ih (i + 1) (c + 1) (by omega) (by omega) (by omega)).mono ?_
      rintro _ rfl
      omega
    · rw [if_neg (fun x => h2 x.2)]
      refine (ih (i + 1) c (by omega) (by omega) (by omega)).mono ?_
      rintro _ rfl
      omega
    · rw [if_neg (fun x => h x.1)]
      refine (ih (i + 1) c (by omega) (by omega) (by omega)).mono ?_
      rintro _ rfl
      omega
theorem implMult (n : Int) (es : List E) (hes : ∀ e ∈ es, EOk n e) (hel : es.length ≤ 12) (a b : Int) (ha : 0 ≤ a ∧ a < n) (hb : 0 ≤ b ∧ b < n) : Ep (fun k => impl_Multiplicity.f k n es a b) (· = mult es a b) := by
  simp only [impl_Multiplicity.f]
  refine Ep.neg (by unfold mn; split <;> omega) (Ep.neg (by unfold mx; split <;> omega) ?_)
  refine Ep.up ?_
  simp only [impl_Multiplicity.j0]
  refine Ep.ite (fun h => Ep.now ?_) (fun h => ?_)
  · have : a = b := by simpa using h
    rw [this, mult_self hes]
  · have hab : a ≠ b := by simpa using h
    refine (implMult_l0 n es hes hel a b hab es.length 0 0 (by omega) (by omega) (by omega)).mono ?_
    rintro _ rfl
    simp
/-- Where a code is read. -/
def Cur (b : List Int) (i : Int) : Prop := 0 ≤ i ∧ i ≤ b.length
theorem and255 (y : Int) : 0 ≤ Go.bits .and .i64 y 255 ∧ Go.bits .and .i64 y 255 ≤ 255 := by
  have h : ((BitVec.ofInt 64 y) &&& (BitVec.ofInt 64 255)).toNat ≤ 255 := by
    rw [BitVec.toNat_and]
    exact Nat.le_trans Nat.and_le_right (by decide)
  have e : Go.bits .and .i64 y 255 = (((BitVec.ofInt 64 y) &&& (BitVec.ofInt 64 255)).toNat : Int) := by
    show Go.IntKind.wrap .i64 _ = _
    have e0 : ∀ m : Nat, m ≤ 255 → Go.IntKind.wrap .i64 (m : Int) = m := by
      intro m hm
      exact (wraps_i64 m (by omega) (by omega))
    exact e0 _ h
  rw [e]
  omega
theorem byte_ok {b : List Int} (hb : b.length ≤ 1048576) {i : Int} (h : Int) (hc : Cur b i) : ∃ x i' h', spec_l01Byte.f b i h = some (x, i', h') ∧ 0 ≤ x ∧ x ≤ 255 ∧ Cur b i' := by
  unfold Cur at *
  unfold spec_l01Byte.f
  split
  · rw [if_pos hc.1]
    exact ⟨_, _, _, rfl, (and255 _).1, (and255 _).2, by rw [wrap_id (by omega) (by omega)]; omega⟩
  · exact ⟨_, _, _, rfl, (and255 _).1, (and255 _).2, hc⟩
theorem below_ok {b : List Int} (hb : b.length ≤ 1048576) {i : Int} (h : Int) (hc : Cur b i) {a : Int} (h0 : 1 ≤ a) (h1 : a ≤ 256) : ∃ x i' h', spec_l01Below.f b i h a = some (x, i', h') ∧ 0 ≤ x ∧ x < a ∧ Cur b i' := by
  obtain ⟨x, i', h', e, x0, x1, hc'⟩ := byte_ok hb h hc
  refine ⟨Int.tmod x a, i', h', ?_, Int.tmod_nonneg _ x0, Int.tmod_lt_of_pos _ (by omega), hc'⟩
  unfold spec_l01Below.f
  rw [if_neg (by omega), if_pos h1, e]
  show (if a = 0 then none else some _) = _
  rw [if_neg (by omega)]
theorem cur_l0 (b : List Int) (hb : b.length ≤ 1048576) : ∀ (d i : Nat) (h : Int), i + d = b.length → Ep (fun k => spec_l01New.l0 k b h (i : Int)) (fun r => r.1 = b ∧ Cur b r.2.1) := by
  intro d
  induction d with
  | zero =>
    intro i h hi
    refine Ep.up ?_
    simp only [spec_l01New.l0]
    exact Ep.neg (by omega) (Ep.now ⟨rfl, by unfold Cur; simp⟩)
  | succ d ih =>
    intro i h hi
    refine Ep.up ?_
    simp only [spec_l01New.l0]
    refine Ep.pos (by omega) (Ep.ite (fun _ => Ep.pos (by omega) ?_) (fun _ => Ep.now ⟨rfl, by unfold Cur; simp⟩))
    rw [wrap_succ (by omega)]
    exact ih (i + 1) _ (by omega)
theorem cur_new (b : List Int) (hb : b.length ≤ 1048576) : Ep (fun k => spec_l01New.f k b) (fun r => r.1 = b ∧ Cur b r.2.1) := by
  simp only [spec_l01New.f]
  exact cur_l0 b hb b.length 0 _ (by omega)
theorem addE_true (es : List E) (hel : es.length ≤ 12) (n : Int) (e : E) : ∀ (d i : Nat) (acc : List E), i + d = es.length → acc.length ≤ i + 1 → Ep (fun k => spec_AddEdge.l0 k true es (es.length : Int) (i : Int) e.f0 e.f1 n acc) (· = (n, acc ++ es.drop i, true)) := by
  intro d
  induction d with
  | zero =>
    intro i acc hi ha
    refine Ep.up ?_
    simp only [spec_AddEdge.l0]
    refine Ep.neg (by omega) (Ep.pos trivial (Ep.now ?_))
    rw [List.drop_of_length_le (by omega), List.append_nil]
  | succ d ih =>
    intro i acc hi ha
    have hlt : i < es.length := by omega
    refine Ep.up ?_
    simp only [spec_AddEdge.l0]
    refine Ep.pos (by omega) (Ep.pos (by omega) (Ep.pos (by omega) (Ep.pos trivial (Ep.pos (by omega) ?_))))
    rw [rdE_get hlt, wrap_succ (by omega)]
    refine (ih (i + 1) _ (by omega) (by simp; omega)).mono ?_
    rintro _ rfl
    rw [List.drop_eq_getElem_cons hlt, List.append_assoc]
    rfl
theorem insE_cons (e x : E) (r : List E) : insE e (x :: r) = if x.f0 > e.f0 ∨ (x.f0 = e.f0 ∧ x.f1 > e.f1) then e :: x :: r else x :: insE e r := rfl
theorem addE_l0 (es : List E) (hel : es.length ≤ 12) (n : Int) (e : E) : ∀ (d i : Nat) (acc : List E), i + d = es.length → acc.length ≤ i → Ep (fun k => spec_AddEdge.l0 k false es (es.length : Int) (i : Int) e.f0 e.f1 n acc) (· = (n, acc ++ insE e (es.drop i), true)) := by
  intro d
  induction d with
  | zero =>
    intro i acc hi ha
    refine Ep.up ?_
    simp only [spec_AddEdge.l0]
    refine Ep.neg (by omega) (Ep.neg (by simp) (Ep.pos (by omega) (Ep.now ?_)))
    rw [List.drop_of_length_le (by omega)]
    rfl
  | succ d ih =>
    intro i acc hi ha
    have hlt : i < es.length := by omega
    refine Ep.up ?_
    simp only [spec_AddEdge.l0]
    refine Ep.pos (by omega) (Ep.pos (by omega) (Ep.pos (by omega) (Ep.neg (by simp) ?_)))
    rw [rdE_get hlt, wrap_succ (by omega), List.drop_eq_getElem_cons hlt]
    have put : ∀ (hx : es[i].f0 > e.f0 ∨ (es[i].f0 = e.f0 ∧ es[i].f1 > e.f1)), Ep (fun k => (some (acc ++ [(⟨e.f0, e.f1⟩ : E)])).bind fun y => if y.length < 8796093022208 then spec_AddEdge.l0 k true es (es.length : Int) ((i + 1 : Nat) : Int) e.f0 e.f1 n (y ++ [(⟨es[i].f0, es[i].f1⟩ : E)]) else none) (· = (n, acc ++ insE e (es[i] :: es.drop (i + 1)), true)) := by
      intro hx
      refine Ep.bind0 rfl (Ep.pos (by simp; omega) ?_)
      refine (addE_true es hel n e d (i + 1) _ (by omega) (by simp; omega)).mono ?_
      rintro _ rfl
      unfold insE
      rw [if_pos hx]
      simp only [List.append_assoc, List.cons_append, List.nil_append]
    have go : ∀ (hx : ¬ (es[i].f0 > e.f0 ∨ (es[i].f0 = e.f0 ∧ es[i].f1 > e.f1))), Ep (fun k => spec_AddEdge.l0 k false es (es.length : Int) ((i + 1 : Nat) : Int) e.f0 e.f1 n (acc ++ [(⟨es[i].f0, es[i].f1⟩ : E)])) (· = (n, acc ++ insE e (es[i] :: es.drop (i + 1)), true)) := by
      intro hx
      refine (ih (i + 1) _ (by omega) (by simp; omega)).mono ?_
      rintro _ rfl
      rw [List.append_assoc, insE_cons, if_neg hx]
      rfl
    refine Ep.ite (fun h1 => Ep.pos (by omega) (put (.inl h1))) (fun h1 => Ep.ite (fun h2 => Ep.ite (fun h3 => Ep.pos (by omega) (put (.inr ⟨h2, h3⟩))) (fun h3 => Ep.pos (by omega) (go (by omega)))) (fun h2 => Ep.pos (by omega) (go (by omega))))
theorem addE_ok {n : Int} {es : List E} (hg : GOk n es) (a b : Int) : Ep (fun k => spec_AddEdge.f k n es a b) (fun r => r.2.2 = true → r.1 = n ∧ GOk n r.2.1) := by
  have hG := hg.1
  unfold EsOk at hG
  have hw : wrap64 (n - 1) = n - 1 := wrap_id (by omega) (by omega)
  have no : Ep (fun k => spec_AddEdge.j0 k a b true n es) (fun r => r.2.2 = true → r.1 = n ∧ GOk n r.2.1) := by
    refine Ep.up ?_
    simp only [spec_AddEdge.j0]
    exact Ep.pos trivial (Ep.now (fun h => by cases h))
  simp only [spec_AddEdge.f]
  refine Ep.bind (specGraph n es) ?_
  rintro _ rfl
  rw [gOk_iff.2 hg]
  refine Ep.pos rfl (Ep.bind0 (l01In_eq _ _ _) (Ep.ite (fun h1 => ?_) (fun _ => no)))
  refine Ep.bind0 (l01In_eq _ _ _) (Ep.ite (fun h2 => ?_) (fun _ => no))
  rw [decide_eq_true_eq, hw] at h1 h2
  refine Ep.ite (fun _ => no) (fun h3 => ?_)
  refine Ep.up ?_
  simp only [spec_AddEdge.j0]
  refine Ep.ite (fun _ => Ep.now (fun h => by cases h)) (fun h4 => ?_)
  have h5 : es.length ≠ 12 := by
    intro h
    rw [h] at h4
    exact h4 rfl
  refine (addE_l0 es hG.2.2.1 n ⟨mn a b, mx a b⟩ es.length 0 [] (by omega) (by simp)).mono ?_
  rintro _ rfl _
  refine ⟨rfl, gOk_ins hg h5 ?_⟩
  unfold EOk mn mx
  dsimp only
  split <;> split <;> omega
/-- The rows below a; of row a what lies below b. -/
def hTo (t : List E) (n a b : Nat) : List E := (List.range a).flatMap (hRow t n) ++ (List.range b).flatMap fun c => if a < c then List.replicate (mult t a c).toNat ⟨a, c⟩ else []
theorem hTo_start (t : List E) (n a : Nat) : hTo t n a (a + 1) = (List.range a).flatMap (hRow t n) := by
  have h : ((List.range (a + 1)).flatMap fun c => if a < c then List.replicate (mult t a c).toNat (⟨a, c⟩ : E) else []) = [] := List.flatMap_eq_nil_iff.2 fun c hc => by rw [if_neg (by have := List.mem_range.1 hc; omega)]
  unfold hTo
  rw [h, List.append_nil]
theorem hTo_end (t : List E) (n a : Nat) : hTo t n a n = (List.range (a + 1)).flatMap (hRow t n) := by
  unfold hTo
  rw [List.range_succ, List.flatMap_append]
  simp [hRow]
theorem hTo_next (t : List E) (n a b : Nat) (h : a < b) : hTo t n a (b + 1) = hTo t n a b ++ List.replicate (mult t a b).toNat ⟨a, b⟩ := by
  unfold hTo
  rw [List.range_succ (n := b), List.flatMap_append, ← List.append_assoc]
  simp [h]
theorem len_flat_le (C : Nat) (f : Nat → List E) (h : ∀ i, (f i).length ≤ C) : ∀ n : Nat, ((List.range n).flatMap f).length ≤ C * n := by
  intro n
  induction n with
  | zero => simp
  | succ n ih =>
    rw [List.range_succ, List.flatMap_append, List.length_append]
    have := h n
    simp only [List.flatMap_cons, List.flatMap_nil, List.append_nil]
    rw [Nat.mul_succ]
    omega
theorem hTo_len (t : List E) (ht : t.length ≤ 12) (n a b : Nat) (hn : n ≤ 6) (ha : a ≤ 6) (hb : b ≤ 6) : (hTo t n a b).length ≤ 1000 := by
  have hr : ∀ a c : Nat, (if a < c then List.replicate (mult t a c).toNat (⟨a, c⟩ : E) else []).length ≤ 12 := by
    intro a c
    have := mult_le t a c
    split
    · rw [List.length_replicate]; omega
    · simp
  have h1 : ∀ a, (hRow t n a).length ≤ 72 := fun a => Nat.le_trans (len_flat_le 12 _ (hr a) n) (by omega)
  have h2 := len_flat_le 72 (hRow t n) h1 a
  have h3 := len_flat_le 12 _ (hr a) b
  unfold hTo
  rw [List.length_append]
  omega
/-- What is drawn. -/
def DrawOk (b : List Int) (most : Int) (r : Int × List E × Int × Int) : Prop := ∃ n : Nat, r.1 = n ∧ 2 ≤ n ∧ (n : Int) ≤ most ∧ GOk (n : Int) r.2.1 ∧ Cur b r.2.2.1
theorem draw_l4 {b : List Int} (hb : b.length ≤ 1048576) {n : Nat} (h2 : 2 ≤ n) (h6 : n ≤ 6) {most : Int} (hm : (n : Int) ≤ most) : ∀ (c : Nat) (es : List E) (i h : Int), c ≤ 10 → GOk (n : Int) es → Cur b i → Ep (fun k => spec_l02Draw.l4 k (n : Int) (c : Int) b i h (n : Int) es) (DrawOk b most) := by
  intro c
  induction c with
  | zero =>
    intro es i h _ hg hc
    refine Ep.up ?_
    simp only [spec_l02Draw.l4]
    exact Ep.neg (by omega) (Ep.now ⟨n, rfl, h2, hm, hg, hc⟩)
  | succ c ih =>
    intro es i h hc10 hg hc
    refine Ep.up ?_
    simp only [spec_l02Draw.l4]
    refine Ep.pos (by omega) ?_
    obtain ⟨x, i1, h1, e1, x0, x1, hc1⟩ := below_ok hb h hc (a := (n : Int)) (by omega) (by omega)
    refine Ep.bind0 e1 ?_
    rw [show wrap64 ((n : Int) - 1) = n - 1 from wrap_id (by omega) (by omega)]
    obtain ⟨y, i2, h2', e2, y0, y1, hc2⟩ := below_ok hb h1 hc1 (a := (n : Int) - 1) (by omega) (by omega)
    refine Ep.bind0 e2 (Ep.neg (by omega) ?_)
    rw [show wrap64 (((c + 1 : Nat) : Int) - 1) = c from by rw [wrap_id (by omega) (by omega)]; omega]
    refine Ep.bind (addE_ok hg _ _) ?_
    rintro ⟨n', es', ok⟩ hr
    refine Ep.ite (fun h3 => ?_) (fun _ => ih es i2 h2' (by omega) hg hc2)
    obtain ⟨h4, h5⟩ := hr h3
    dsimp only at h4 h5
    subst h4
    exact ih es' i2 h2' (by omega) h5 hc2
theorem draw_l3 {b : List Int} {n a c : Int} {t : List E} {i h : Int} {Q : Int × List E × Int × Int → Prop} : ∀ (m : Nat) (acc : List E), m ≤ 20 → acc.length + m ≤ 2000 → Ep (fun k => spec_l02Draw.l2 k n a (wrap64 (c + 1)) b i h n t n (acc ++ List.replicate m ⟨a, c⟩)) Q →
    Ep (fun k => spec_l02Draw.l3 k n a c (m : Int) b i h n t n acc) Q := by
  intro m
  induction m with
  | zero =>
    intro acc _ hl hk
    refine Ep.up ?_
    simp only [spec_l02Draw.l3]
    refine Ep.neg (by omega) ?_
    simpa using hk
  | succ m ih =>
    intro acc hm hl hk
    refine Ep.up ?_
    simp only [spec_l02Draw.l3]
    refine Ep.pos (by omega) (Ep.pos (by omega) ?_)
    rw [show wrap64 (((m + 1 : Nat) : Int) - 1) = m from by rw [wrap_id (by omega) (by omega)]; omega]
    refine ih _ (by omega) (by simp; omega) ?_
    rw [List.append_assoc, show [(⟨a, c⟩ : E)] ++ List.replicate m ⟨a, c⟩ = List.replicate (m + 1) ⟨a, c⟩ from rfl]
    exact hk
theorem draw_l2 {b : List Int} {n : Nat} (h6 : n ≤ 6) {t : List E} (ht : TreeE n t) {i h : Int} {a : Nat} (ha : a < n) {Q : Int × List E × Int × Int → Prop}
    (hk : Ep (fun k => spec_l02Draw.l1 k (n : Int) ((a + 1 : Nat) : Int) b i h (n : Int) t (n : Int) ((List.range (a + 1)).flatMap (hRow t n))) Q) : ∀ (d c : Nat), c + d = n → a < c →
    Ep (fun k => spec_l02Draw.l2 k (n : Int) (a : Int) (c : Int) b i h (n : Int) t (n : Int) (hTo t n a c)) Q := by
  have hl := ht.len
  intro d
  induction d with
  | zero =>
    intro c hc hac
    refine Ep.up ?_
    simp only [spec_l02Draw.l2]
    obtain rfl : c = n := by omega
    refine Ep.neg (by omega) ?_
    rw [wrap_succ (by omega), hTo_end]
    exact hk
  | succ d ih =>
    intro c hc hac
    refine Ep.up ?_
    simp only [spec_l02Draw.l2]
    refine Ep.pos (by omega) (Ep.bind (specMult (n : Int) t ht.ok (by omega) (a : Int) (c : Int) (by omega) (by omega)) ?_)
    rintro _ rfl
    have hm0 := mult_nonneg t (a : Int) (c : Int)
    have hm1 := mult_le t (a : Int) (c : Int)
    have hlen := hTo_len t (by omega) n a c h6 (by omega) (by omega)
    obtain ⟨m, hm⟩ := Int.eq_ofNat_of_zero_le hm0
    rw [hm]
    refine draw_l3 m _ (by omega) (by omega) ?_
    rw [wrap_succ (by omega)]
    have := ih (c + 1) (by omega) (by omega)
    rw [hTo_next t n a c hac, hm] at this
    exact this
theorem draw_l1 {b : List Int} (hb : b.length ≤ 1048576) {n : Nat} (h2 : 2 ≤ n) (h6 : n ≤ 6) {most : Int} (hm : (n : Int) ≤ most) {t : List E} (ht : TreeE n t) {i h : Int} (hc : Cur b i) : ∀ (d a : Nat), a + d = n →
    Ep (fun k => spec_l02Draw.l1 k (n : Int) (a : Int) b i h (n : Int) t (n : Int) ((List.range a).flatMap (hRow t n))) (DrawOk b most) := by
  intro d
  induction d with
  | zero =>
    intro a ha
    refine Ep.up ?_
    simp only [spec_l02Draw.l1]
    obtain rfl : a = n := by omega
    refine Ep.neg (by omega) ?_
    obtain ⟨x, i1, h1, e1, x0, x1, hc1⟩ := below_ok hb h hc (a := 5) (by omega) (by omega)
    refine Ep.bind0 e1 ?_
    obtain ⟨c, rfl⟩ := Int.eq_ofNat_of_zero_le x0
    exact draw_l4 hb h2 h6 hm c _ i1 h1 (by omega) (ht.gOk h6) hc1
  | succ d ih =>
    intro a ha
    refine Ep.up ?_
    simp only [spec_l02Draw.l1]
    refine Ep.pos (by omega) ?_
    rw [wrap_succ (by omega), ← hTo_start]
    exact draw_l2 h6 ht (by omega) (ih (a + 1) (by omega)) (n - (a + 1)) (a + 1) (by omega) (by omega)
theorem draw_l0 {b : List Int} (hb : b.length ≤ 1048576) {n : Nat} (h2 : 2 ≤ n) (h6 : n ≤ 6) {most : Int} (hm : (n : Int) ≤ most) : ∀ (d v : Nat) (t : List E) (i h : Int), v + d = n → 1 ≤ v → TreeE v t → Cur b i →
    Ep (fun k => spec_l02Draw.l0 k (n : Int) (v : Int) b i h (v : Int) t) (DrawOk b most) := by
  intro d
  induction d with
  | zero =>
    intro v t i h hv h1 ht hc
    refine Ep.up ?_
    simp only [spec_l02Draw.l0]
    obtain rfl : v = n := by omega
    refine Ep.neg (by omega) ?_
    exact draw_l1 hb h2 h6 hm ht hc v 0 (by omega)
  | succ d ih =>
    intro v t i h hv h1 ht hc
    have hl := ht.len
    refine Ep.up ?_
    simp only [spec_l02Draw.l0]
    obtain ⟨x, i1, h1', e1, x0, x1, hc1⟩ := below_ok hb h hc (a := (v : Int)) (by omega) (by omega)
    refine Ep.pos (by omega) (Ep.bind0 e1 (Ep.pos (by omega) ?_))
    rw [wrap_succ (by omega)]
    exact ih (v + 1) _ i1 h1' (by omega) (by omega) (ht.next x0 x1) hc1
theorem draw_ok {b : List Int} (hb : b.length ≤ 1048576) {i : Int} (h : Int) (hc : Cur b i) {most : Int} (h3 : 2 ≤ most) (h5 : most ≤ 6) : Ep (fun k => spec_l02Draw.f k b i h most) (DrawOk b most) := by
  simp only [spec_l02Draw.f]
  rw [wrap_id (x := most - 1) (by omega) (by omega)]
  obtain ⟨x, i1, h1, e1, x0, x1, hc1⟩ := below_ok hb h hc (a := most - 1) (by omega) (by omega)
  refine Ep.bind0 e1 ?_
  dsimp only
  obtain ⟨c, rfl⟩ := Int.eq_ofNat_of_zero_le x0
  rw [show wrap64 (2 + (c : Int)) = ((2 + c : Nat) : Int) from by rw [wrap_id (by omega) (by omega)]; omega]
  exact draw_l0 hb (by omega) (by omega) (by omega) (1 + c) 1 [] i1 h1 (by omega) (by omega) .start hc1
/-- A drawn configuration. -/
structure Pl (n : Nat) (q : Int) (p : List Int) : Prop where
  len : p.length = n
  bd : ∀ y ∈ p, 0 ≤ y ∧ y ≤ 6
  hq : rd p q = 0
end Go.Proofs.Ytdfibdjjoplmmaa.Cf
end

section
namespace Go.Proofs.Ytdfibdjjoplmmaa.Cf
set_option linter.unusedVariables false
set_option linter.unusedSimpArgs false
open Go.RowKit Go.Proofs.YtdfibdjjoplmmaaW.PrintWords
/-- g 0 - g 1 + g 2 - .. (n terms). -/
def alt : Nat → (Nat → Int) → Int
  | 0, _ => 0
  | n + 1, g => g 0 - alt n fun i => g (i + 1)
theorem alt_congr : ∀ {n : Nat} {f g : Nat → Int}, (∀ i, i < n → f i = g i) → alt n f = alt n g
  | 0, _, _, _ => rfl
  | n + 1, f, g, h => by
    unfold alt
    rw [h 0 (by omega), alt_congr (n := n) (f := fun i => f (i + 1)) (g := fun i => g (i + 1)) fun i hi => h (i + 1) (by omega)]
theorem alt_zero {n : Nat} {g : Nat → Int} (h : ∀ i, i < n → g i = 0) : alt n g = 0 := by
  induction n generalizing g with
  | zero => rfl
  | succ n ih =>
    unfold alt
    rw [h 0 (by omega), ih fun i hi => h (i + 1) (by omega)]
    rfl
theorem alt_bd {n : Nat} {g : Nat → Int} {C : Int} (h : ∀ i, i < n → -C ≤ g i ∧ g i ≤ C) : -(n * C) ≤ alt n g ∧ alt n g ≤ n * C := by
  induction n generalizing g with
  | zero => simp [alt]
  | succ n ih =>
    have h0 := h 0 (by omega)
    have h1 := ih (g := fun i => g (i + 1)) fun i hi => h (i + 1) (by omega)
    unfold alt
    have e : ((n + 1 : Nat) : Int) * C = n * C + C := by rw [Int.natCast_add, Int.add_mul]; simp
    omega
theorem alt_add (n : Nat) (f g : Nat → Int) : alt n (fun i => f i + g i) = alt n f + alt n g := by
  induction n generalizing f g with
  | zero => rfl
  | succ n ih =>
    unfold alt
    rw [ih (fun i => f (i + 1)) (fun i => g (i + 1))]
    show f 0 + g 0 - _ = _
    omega
theorem alt_mul (n : Nat) (c : Int) (f : Nat → Int) : alt n (fun i => c * f i) = c * alt n f := by
  induction n generalizing f with
  | zero => simp [alt]
  | succ n ih =>
    unfold alt
    rw [ih (fun i => f (i + 1)), Int.mul_sub]
/-- The entry of a matrix. -/
def ent (M : List (List Int)) (r c : Int) : Int := rd (M.getD r.toNat []) c
/-- The determinant of some rows and columns, by the first row. -/
def detL (M : List (List Int)) : List Int → List Int → Int
  | [], _ => 1
  | r :: rs, cs => alt cs.length fun i => ent M r (cs.getD i 0) * detL M rs (cs.eraseIdx i)
theorem mul_bd {a b A B : Int} (ha : -A ≤ a ∧ a ≤ A) (hb : -B ≤ b ∧ b ≤ B) : -(A * B) ≤ a * b ∧ a * b ≤ A * B := by
  have hA : 0 ≤ A := by omega
  have h1 : a.natAbs * b.natAbs ≤ A.natAbs * B.natAbs := Nat.mul_le_mul (by omega) (by omega)
  rw [← Int.natAbs_mul, ← Int.natAbs_mul] at h1
  have h2 : 0 ≤ A * B := Int.mul_nonneg (by omega) (by omega)
  omega
theorem detL_bd {M : List (List Int)} {B : Int} (hB : 0 ≤ B) (hM : ∀ r c, -B ≤ ent M r c ∧ ent M r c ≤ B) : ∀ (rs cs : List Int), cs.length ≤ 6 → -((6 * B) ^ rs.length) ≤ detL M rs cs ∧ detL M rs cs ≤ (6 * B) ^ rs.length
  | [], cs, _ => by simp [detL]
  | r :: rs, cs, hc => by
    have h := alt_bd (n := cs.length) (g := fun i => ent M r (cs.getD i 0) * detL M rs (cs.eraseIdx i)) (C := B * (6 * B) ^ rs.length) fun i hi =>
      mul_bd (hM _ _) (detL_bd hB hM rs (cs.eraseIdx i) (by have := List.length_eraseIdx_le cs i; omega))
    have hp : 0 ≤ B * (6 * B) ^ rs.length := Int.mul_nonneg hB (Int.pow_nonneg (by omega))
    have e : (6 * B) ^ (r :: rs).length = 6 * (B * (6 * B) ^ rs.length) := by
      rw [List.length_cons, Int.pow_succ, Int.mul_comm, Int.mul_assoc]
    have h6 : (cs.length : Int) * (B * (6 * B) ^ rs.length) ≤ 6 * (B * (6 * B) ^ rs.length) := Int.mul_le_mul_of_nonneg_right (by omega) hp
    rw [e]
    unfold detL
    omega
abbrev Col := Int → Int
def z0 : Col := fun _ => 0
def detC : List Int → List Col → Int
  | [], _ => 1
  | r :: rs, cs => alt cs.length fun i => (cs.getD i z0) r * detC rs (cs.eraseIdx i)
def sg : Nat → Int
  | 0 => 1
  | n + 1 => - sg n
theorem sg_two (n : Nat) : sg (n + 2) = sg n := by simp [sg]
theorem sg_even (n : Nat) : sg (n + n) = 1 := by
  induction n with
  | zero => rfl
  | succ n ih => rw [show n + 1 + (n + 1) = n + n + 2 by omega, sg_two, ih]
theorem alt_neg (n : Nat) (g : Nat → Int) : alt n (fun i => - g i) = - alt n g := by
  have h := alt_mul n (-1) g
  simpa using h
/-- The term at j, and the others. -/
theorem alt_split : ∀ (j n : Nat) (g : Nat → Int), j ≤ n → alt (n + 1) g = sg j * g j + alt n (fun k => if k < j then g k else - g (k + 1))
  | 0, n, g, _ => by
    have h := alt_neg n fun k => g (k + 1)
    show g 0 - alt n (fun i => g (i + 1)) = 1 * g 0 + alt n (fun k => if k < 0 then g k else - g (k + 1))
    rw [alt_congr (f := fun k => if k < 0 then g k else - g (k + 1)) (g := fun k => - g (k + 1)) fun i _ => if_neg (by omega), h]
    omega
  | j + 1, 0, g, h => by omega
  | j + 1, n + 1, g, h => by
    have ih := alt_split j n (fun i => g (i + 1)) (by omega)
    show g 0 - alt (n + 1) (fun i => g (i + 1)) = _
    rw [ih]
    have e : alt (n + 1) (fun k => if k < j + 1 then g k else - g (k + 1)) = g 0 - alt n (fun k => if k < j then g (k + 1) else - g (k + 1 + 1)) := by
      show (if 0 < j + 1 then g 0 else _) - alt n (fun k => if k + 1 < j + 1 then g (k + 1) else - g (k + 1 + 1)) = _
      rw [if_pos (by omega)]
      congr 1
      refine alt_congr fun i _ => ?_
      by_cases c : i < j
      · rw [if_pos c, if_pos (by omega)]
      · rw [if_neg c, if_neg (by omega)]
    rw [e]
    show _ = - sg j * g (j + 1) + _
    rw [Int.neg_mul]
    omega
/-- Two neighbours that are alike, and nothing else. -/
theorem alt_two {n p : Nat} (hp : p + 1 < n) {g : Nat → Int} (h : ∀ i, i < n → i ≠ p → i ≠ p + 1 → g i = 0) (he : g p = g (p + 1)) : alt n g = 0 := by
  obtain ⟨m, rfl⟩ : ∃ m, n = m + 2 := ⟨n - 2, by omega⟩
  rw [alt_split p (m + 1) g (by omega), alt_split p m _ (by omega), if_neg (by omega), ← he, alt_zero fun i hi => ?_]
  · rw [Int.mul_neg]; omega
  · by_cases c : i < p
    · rw [if_pos c, if_pos c, h i (by omega) (by omega) (by omega)]
    · rw [if_neg c, if_neg (by omega), h (i + 1 + 1) (by omega) (by omega) (by omega)]
      simp
theorem getD_erase {α : Type} (l : List α) (i j : Nat) (d : α) : (l.eraseIdx i).getD j d = l.getD (if j < i then j else j + 1) d := by
  rw [List.getD_eq_getElem?_getD, List.getElem?_eraseIdx, List.getD_eq_getElem?_getD]
  split <;> rfl
theorem erase_erase {α : Type} (l : List α) {j k : Nat} (h : k < j) : (l.eraseIdx k).eraseIdx (j - 1) = (l.eraseIdx j).eraseIdx k := by
  apply List.ext_getElem?
  intro i
  simp only [List.getElem?_eraseIdx]
  by_cases a : i < k
  · rw [if_pos (show i < j - 1 by omega), if_pos a, if_pos a, if_pos (show i < j by omega)]
  · by_cases b : i < j - 1
    · rw [if_pos b, if_neg a, if_neg a, if_pos (by omega)]
    · rw [if_neg b, if_neg a, if_neg (show ¬ i + 1 < k by omega), if_neg (show ¬ i + 1 < j by omega)]
theorem erase_set_self {α : Type} (l : List α) (p : Nat) (x : α) : (l.set p x).eraseIdx p = l.eraseIdx p := by
  apply List.ext_getElem?
  intro i
  simp only [List.getElem?_eraseIdx, List.getElem?_set]
  split
  · rw [if_neg (by omega)]
  · rw [if_neg (by omega)]
theorem erase_set_lt {α : Type} (l : List α) {p i : Nat} (h : i < p) (x : α) : (l.set p x).eraseIdx i = (l.eraseIdx i).set (p - 1) x := by
  apply List.ext_getElem?
  intro k
  simp only [List.getElem?_eraseIdx, List.getElem?_set, List.length_eraseIdx]
  by_cases a : k < i
  · rw [if_pos a, if_neg (by omega), if_neg (by omega), if_pos a]
  · rw [if_neg a]
    by_cases b : p = k + 1
    · rw [if_pos b, if_pos (show p - 1 = k by omega)]
      by_cases c : p < l.length
      · rw [if_pos c, if_pos (by split <;> omega)]
      · rw [if_neg c, if_neg (by split <;> omega)]
    · rw [if_neg b, if_neg (show ¬ p - 1 = k by omega), if_neg a]
theorem erase_set_gt {α : Type} (l : List α) {p i : Nat} (h : p < i) (x : α) : (l.set p x).eraseIdx i = (l.eraseIdx i).set p x := by
  apply List.ext_getElem?
  intro k
  simp only [List.getElem?_eraseIdx, List.getElem?_set, List.length_eraseIdx]
  by_cases a : k < i
  · rw [if_pos a, if_pos a]
    by_cases b : p = k
    · rw [if_pos b, if_pos b]
      by_cases c : p < l.length
      · rw [if_pos c, if_pos (by split <;> omega)]
      · rw [if_neg c, if_neg (by split <;> omega)]
    · rw [if_neg b, if_neg b]
  · rw [if_neg a, if_neg a, if_neg (by omega), if_neg (by omega)]
theorem getD_set {α : Type} (l : List α) (p i : Nat) (x d : α) : (l.set p x).getD i d = if i = p ∧ p < l.length then x else l.getD i d := by
  rw [List.getD_eq_getElem?_getD, List.getElem?_set, List.getD_eq_getElem?_getD]
  by_cases c : p = i
  · subst c
    by_cases b : p < l.length
    · rw [if_pos rfl, if_pos b, if_pos ⟨rfl, b⟩]; rfl
    · rw [if_pos rfl, if_neg b, if_neg (by omega), List.getElem?_eq_none (by omega)]
  · rw [if_neg c, if_neg (by omega)]
theorem detC_congr {rs : List Int} : ∀ {cs ds : List Col}, cs.length = ds.length → (∀ i, i < cs.length → ∀ r ∈ rs, (cs.getD i z0) r = (ds.getD i z0) r) → detC rs cs = detC rs ds := by
  induction rs with
  | nil => intro cs ds _ _; rfl
  | cons r rs ih =>
    intro cs ds hl h
    unfold detC
    rw [← hl]
    refine alt_congr fun i hi => ?_
    rw [h i hi r List.mem_cons_self]
    congr 1
    refine ih (by rw [List.length_eraseIdx, List.length_eraseIdx, hl]) fun k hk r' hr' => ?_
    rw [getD_erase, getD_erase]
    have : (cs.eraseIdx i).length = cs.length - 1 := by rw [List.length_eraseIdx, if_pos hi]
    exact h _ (by split <;> omega) r' (List.mem_cons_of_mem _ hr')
theorem detC_lin (u w : Col) (t : Int) : ∀ {rs : List Int} {cs : List Col} {p : Nat}, rs.length = cs.length → p < cs.length → detC rs (cs.set p fun r => u r + t * w r) = detC rs (cs.set p u) + t * detC rs (cs.set p w)
  | [], cs, p, h, hp => by simp at h; omega
  | r :: rs, cs, p, h, hp => by
    unfold detC
    simp only [List.length_set]
    rw [← alt_mul, ← alt_add]
    refine alt_congr fun i hi => ?_
    by_cases c : i = p
    · subst c
      rw [erase_set_self, erase_set_self, erase_set_self, getD_set, getD_set, getD_set, if_pos ⟨rfl, hp⟩, if_pos ⟨rfl, hp⟩, if_pos ⟨rfl, hp⟩, Int.add_mul, Int.mul_assoc]
    · have hl : (cs.eraseIdx i).length = cs.length - 1 := by rw [List.length_eraseIdx, if_pos hi]
      have hr : rs.length = cs.length - 1 := by simp at h; omega
      rw [getD_set, getD_set, getD_set, if_neg (by omega), if_neg (by omega), if_neg (by omega)]
      by_cases d : i < p
      · rw [erase_set_lt _ d, erase_set_lt _ d, erase_set_lt _ d, detC_lin u w t (by omega) (by omega), Int.mul_add, Int.mul_left_comm]
      · rw [erase_set_gt _ (by omega), erase_set_gt _ (by omega), erase_set_gt _ (by omega), detC_lin u w t (by omega) (by omega), Int.mul_add, Int.mul_left_comm]
theorem detC_next : ∀ {rs : List Int} {cs : List Col} {p : Nat}, rs.length = cs.length → p + 1 < cs.length → cs.getD p z0 = cs.getD (p + 1) z0 → detC rs cs = 0
  | [], cs, p, h, hp, _ => by simp at h; omega
  | r :: rs, cs, p, h, hp, he => by
    unfold detC
    refine alt_two hp (fun i hi h1 h2 => ?_) ?_
    · have hl : (cs.eraseIdx i).length = cs.length - 1 := by rw [List.length_eraseIdx, if_pos hi]
      have hr : rs.length = cs.length - 1 := by simp at h; omega
      by_cases d : i < p
      · rw [detC_next (p := p - 1) (by omega) (by omega) (by rw [getD_erase, getD_erase, if_neg (by omega), if_neg (by omega), show p - 1 + 1 = p by omega]; exact he), Int.mul_zero]
      · rw [detC_next (p := p) (by omega) (by omega) (by rw [getD_erase, getD_erase, if_pos (by omega), if_pos (by omega)]; exact he), Int.mul_zero]
    · have e : cs.eraseIdx p = cs.eraseIdx (p + 1) := by
        apply List.ext_getElem?
        intro k
        simp only [List.getElem?_eraseIdx]
        by_cases a : k < p
        · rw [if_pos a, if_pos (by omega)]
        · by_cases b : k = p
          · subst b
            rw [if_neg (by omega), if_pos (by omega)]
            rw [List.getD_eq_getElem?_getD, List.getD_eq_getElem?_getD, List.getElem?_eq_getElem (show k < cs.length by omega), List.getElem?_eq_getElem (show k + 1 < cs.length by omega)] at he
            rw [List.getElem?_eq_getElem (show k < cs.length by omega), List.getElem?_eq_getElem (show k + 1 < cs.length by omega)]
            simp only [Option.getD_some] at he
            rw [he]
          · rw [if_neg (by omega), if_neg (by omega)]
      rw [he, e]
theorem set_self {α : Type} {l : List α} {p : Nat} (d : α) (hp : p < l.length) : l.set p (l.getD p d) = l := by
  apply List.ext_getElem?
  intro i
  rw [List.getElem?_set]
  by_cases c : p = i
  · subst c
    rw [if_pos rfl, if_pos hp, List.getD_eq_getElem?_getD, List.getElem?_eq_getElem hp]; rfl
  · rw [if_neg c]
theorem set_comm' {α : Type} (l : List α) {p q : Nat} (h : p ≠ q) (x y : α) : (l.set p x).set q y = (l.set q y).set p x := List.set_comm x y h
theorem detC_add {rs : List Int} {cs : List Col} {p : Nat} (u w : Col) (h : rs.length = cs.length) (hp : p < cs.length) : detC rs (cs.set p fun r => u r + w r) = detC rs (cs.set p u) + detC rs (cs.set p w) := by
  have := detC_lin u w 1 h hp
  simpa using this
/-- Two neighbours exchanged. -/
theorem detC_swap {rs : List Int} {cs : List Col} {p : Nat} (h : rs.length = cs.length) (hp : p + 1 < cs.length) (x y : Col) : detC rs ((cs.set p x).set (p + 1) y) = - detC rs ((cs.set p y).set (p + 1) x) := by
  have hz : ∀ z : Col, detC rs ((cs.set p z).set (p + 1) z) = 0 := fun z => by
    refine detC_next (p := p) (by simpa using h) (by simpa using hp) ?_
    rw [getD_set, getD_set, if_neg (by omega), getD_set, if_pos ⟨rfl, by omega⟩, if_pos ⟨rfl, by simpa using hp⟩]
  have h1 := hz fun r => x r + y r
  have a1 : ∀ z : Col, detC rs ((cs.set p fun r => x r + y r).set (p + 1) z) = detC rs ((cs.set p x).set (p + 1) z) + detC rs ((cs.set p y).set (p + 1) z) := fun z => by
    rw [set_comm' cs (by omega) _ z, detC_add x y (by simpa using h) (by rw [List.length_set]; omega), set_comm' cs (by omega) z x, set_comm' cs (by omega) z y]
  rw [detC_add x y (by simpa using h) (by simpa using hp), a1 x, a1 y, hz x, hz y] at h1
  omega
/-- Two columns are the same. -/
theorem detC_same {rs : List Int} : ∀ (d : Nat) {cs : List Col} {p : Nat}, rs.length = cs.length → p + d + 1 < cs.length → cs.getD p z0 = cs.getD (p + d + 1) z0 → detC rs cs = 0
  | 0, cs, p, h, hp, he => detC_next h hp he
  | d + 1, cs, p, h, hp, he => by
    have e : cs = (cs.set (p + d + 1) (cs.getD (p + d + 1) z0)).set (p + d + 1 + 1) (cs.getD (p + d + 2) z0) := by
      rw [set_self z0 (by omega), set_self z0 (by omega)]
    rw [e, detC_swap h (by omega), detC_same d (p := p) (by simpa using h) (by rw [List.length_set, List.length_set]; omega), Int.neg_zero]
    rw [getD_set, if_neg (by omega), getD_set, if_neg (by omega), getD_set, if_neg (by omega), getD_set, if_pos ⟨rfl, by omega⟩]
    exact he
theorem detC_null {rs : List Int} {cs : List Col} {p : Nat} (h : rs.length = cs.length) (hp : p < cs.length) : detC rs (cs.set p z0) = 0 := by
  have h1 := detC_add (p := p) z0 z0 h hp
  have e : (fun r => z0 r + z0 r) = z0 := rfl
  rw [e] at h1
  omega
/-- A column that is a sum of others. -/
theorem detC_comb {rs : List Int} {cs : List Col} {p : Nat} (h : rs.length = cs.length) (hp : p < cs.length) : ∀ (L : List (Int × Nat)), (∀ x ∈ L, x.2 < cs.length ∧ x.2 ≠ p) → detC rs (cs.set p fun r => (L.map fun x => x.1 * (cs.getD x.2 z0) r).sum) = 0
  | [], _ => detC_null h hp
  | x :: L, hL => by
    have hx := hL x List.mem_cons_self
    have e : (fun r => ((x :: L).map fun y => y.1 * (cs.getD y.2 z0) r).sum) = fun r => (L.map fun y => y.1 * (cs.getD y.2 z0) r).sum + x.1 * (cs.getD x.2 z0) r := by
      funext r
      rw [List.map_cons, List.sum_cons, Int.add_comm]
    rw [e, detC_lin _ _ _ h hp, detC_comb h hp L fun y hy => hL y (List.mem_cons_of_mem _ hy)]
    have : detC rs (cs.set p (cs.getD x.2 z0)) = 0 := by
      by_cases c : x.2 < p
      · refine detC_same (p - x.2 - 1) (p := x.2) (by simpa using h) (by rw [List.length_set]; omega) ?_
        rw [getD_set, if_neg (by omega), show x.2 + (p - x.2 - 1) + 1 = p by omega, getD_set, if_pos ⟨rfl, hp⟩]
      · refine detC_same (x.2 - p - 1) (p := p) (by simpa using h) (by rw [List.length_set]; omega) ?_
        rw [show p + (x.2 - p - 1) + 1 = x.2 by omega, getD_set, if_pos ⟨rfl, hp⟩, getD_set, if_neg (by omega)]
    rw [this]
    simp
end Go.Proofs.Ytdfibdjjoplmmaa.Cf
end

section
namespace Go.Proofs.Ytdfibdjjoplmmaa.Cf
set_option linter.unusedVariables false
set_option linter.unusedSimpArgs false
open Go.RowKit Go.Proofs.YtdfibdjjoplmmaaW.PrintWords Go.Proofs.Ytdfibdjjoplmmaa.P
/-- The set bits below i. -/
def bitsB (m i : Nat) : List Int := ((List.range i).filter fun j => m.testBit j).map fun j : Nat => (j : Int)
def bitsL (m : Nat) : List Int := bitsB m 6
theorem bm_on : ∀ (m : Fin 64) (i : Fin 7), (shr .i64 (m.val : Int) (i.val : Int) > 0 ∧ i.val < 6) ∨ (¬ shr .i64 (m.val : Int) (i.val : Int) > 0 ∧ bitsB m.val i.val = bitsL m.val) := by decide
theorem bm_val : ∀ (m : Fin 64) (i : Fin 6), (Go.bits .and .i64 (shr .i64 (m.val : Int) (i.val : Int)) 1 = 1 ∧ m.val.testBit i.val = true) ∨ (Go.bits .and .i64 (shr .i64 (m.val : Int) (i.val : Int)) 1 = 0 ∧ m.val.testBit i.val = false) := by decide
theorem bitsB_succ (m i : Nat) : bitsB m (i + 1) = bitsB m i ++ (if m.testBit i then [(i : Int)] else []) := by
  unfold bitsB
  rw [List.range_succ, List.filter_append, List.map_append]
  congr 1
  by_cases c : m.testBit i = true
  · rw [if_pos c, List.filter_cons_of_pos (by simpa using c)]; rfl
  · rw [if_neg c, List.filter_cons_of_neg (by simpa using c)]; rfl
theorem bitsB_len (m i : Nat) : (bitsB m i).length ≤ i := by
  unfold bitsB
  rw [List.length_map]
  exact Nat.le_trans (List.length_filter_le _ _) (by simp)
set_option maxRecDepth 100000 in
theorem bm_drop : ∀ (m : Fin 64) (i : Fin 6), m.val.testBit i.val = true → ∃ m' : Fin 64, Go.bits .andNot .i64 (m.val : Int) (shl .i64 1 (i.val : Int)) = (m'.val : Int) ∧ bitsL m'.val = (bitsL m.val).eraseIdx (bitsB m.val i.val).length ∧ (bitsL m.val)[(bitsB m.val i.val).length]? = some (i.val : Int) ∧ m'.val ≤ m.val := by decide
theorem bm_all : ∀ (m : Fin 64) (i : Fin 7), m.val < 2 ^ i.val → bitsB m.val i.val = bitsL m.val := by decide
theorem bm_full0 : ∀ i : Fin 7, bitsL (2 ^ i.val - 1) = (List.range i.val).map (fun j : Nat => (j : Int)) ∧ shl .i64 1 (i.val : Int) = ((2 ^ i.val : Nat) : Int) ∧ (2 ^ i.val - 1 : Nat) < 64 ∧ 0 < 2 ^ i.val := by decide
theorem bm_full {i : Nat} (hi : i < 7) : bitsL (2 ^ i - 1) = (List.range i).map (fun j : Nat => (j : Int)) ∧ wrap64 (shl .i64 1 (i : Int) - 1) = ((2 ^ i - 1 : Nat) : Int) ∧ shl .i64 1 (i : Int) = ((2 ^ i : Nat) : Int) ∧ (2 ^ i - 1 : Nat) < 64 := by
  obtain ⟨h1, h2, h3, h4⟩ := bm_full0 ⟨i, hi⟩
  simp only at h1 h2 h3 h4
  refine ⟨h1, ?_, h2, h3⟩
  rw [h2, wrap_id (by omega) (by omega)]
  omega
theorem implBits_l0 {m : Nat} (hm : m < 64) : ∀ (d i : Nat), i + d = 6 → Ep (fun k => impl_bitsOf.l0 k (m : Int) (bitsB m i) (i : Int)) (· = bitsL m) := by
  intro d
  induction d with
  | zero =>
    intro i hi
    refine Ep.up ?_
    simp only [impl_bitsOf.l0]
    rcases bm_on ⟨m, hm⟩ ⟨i, by omega⟩ with ⟨_, h⟩ | ⟨h1, h2⟩
    · exact absurd h (by simp; omega)
    · exact Ep.pos (by omega) (Ep.neg h1 (Ep.now h2))
  | succ d ih =>
    intro i hi
    have h := ih (i + 1) (by omega)
    rw [bitsB_succ] at h
    refine Ep.up ?_
    simp only [impl_bitsOf.l0]
    rcases bm_on ⟨m, hm⟩ ⟨i, by omega⟩ with ⟨h1, _⟩ | ⟨h1, h2⟩
    · refine Ep.pos (by omega) (Ep.pos h1 ?_)
      rw [wrap_succ (by omega)]
      rcases bm_val ⟨m, hm⟩ ⟨i, by omega⟩ with ⟨b1, b2⟩ | ⟨b1, b2⟩
      · rw [if_pos b2] at h
        exact Ep.pos b1 (Ep.pos (by have := bitsB_len m i; omega) h)
      · have b1' : Go.bits .and .i64 (shr .i64 (m : Int) (i : Int)) 1 = 0 := b1
        rw [if_neg (by simpa using b2), List.append_nil] at h
        exact Ep.neg (by rw [b1']; omega) h
    · exact Ep.pos (by omega) (Ep.neg h1 (Ep.now h2))
theorem implBits {m : Nat} (hm : m < 64) : Ep (fun k => impl_bitsOf.f k (m : Int)) (· = bitsL m) := implBits_l0 hm 6 0 rfl
end Go.Proofs.Ytdfibdjjoplmmaa.Cf
end

section
namespace Go.Proofs.Ytdfibdjjoplmmaa.Cf
set_option linter.unusedVariables false
set_option linter.unusedSimpArgs false
open Go.RowKit Go.Proofs.YtdfibdjjoplmmaaW.PrintWords
/-- F of edges and of the vertices that are no roots: an edge from a root is left out, or its end becomes a root; an edge between roots counts c. -/
structure Rec (c : Int) (F : List E → List Int → Int) : Prop where
  perm : ∀ {es es' : List E} {vs : List Int}, es.Perm es' → F es vs = F es' vs
  nil : F [] [] = 1
  loop : ∀ (e : E) (es : List E) (vs : List Int), vs.Nodup → e.f0 ∉ vs → e.f1 ∉ vs → F (e :: es) vs = c * F es vs
  cut : ∀ (e : E) (es : List E) (vs : List Int) (u v : Int), (e.f0 = u ∧ e.f1 = v) ∨ (e.f0 = v ∧ e.f1 = u) → (∀ x ∈ es, x.f0 ≠ x.f1) → vs.Nodup → v ∈ vs → u ∉ vs → F (e :: es) vs = F es vs + F es (vs.erase v)
  far : ∀ (es : List E) (vs : List Int), (∀ x ∈ es, x.f0 ≠ x.f1) → vs.Nodup → vs ≠ [] → (∀ e ∈ es, e.f0 ∈ vs ↔ e.f1 ∈ vs) → F es vs = 0
/-- What holds of a value along the recursion. -/
structure RecR (c : Int) (R : List E → List Int → Int → Prop) : Prop where
  perm : ∀ {es es' : List E} {vs : List Int} {k : Int}, es.Perm es' → R es vs k → R es' vs k
  nil : R [] [] 1
  loop : ∀ (e : E) (es : List E) (vs : List Int) (k : Int), vs.Nodup → e.f0 ∉ vs → e.f1 ∉ vs → R es vs k → R (e :: es) vs (c * k)
  cut : ∀ (e : E) (es : List E) (vs : List Int) (u v k k' : Int), (e.f0 = u ∧ e.f1 = v) ∨ (e.f0 = v ∧ e.f1 = u) → (∀ x ∈ es, x.f0 ≠ x.f1) → vs.Nodup → v ∈ vs → u ∉ vs → R es vs k → R es (vs.erase v) k' → R (e :: es) vs (k + k')
  far : ∀ (es : List E) (vs : List Int), (∀ x ∈ es, x.f0 ≠ x.f1) → vs.Nodup → vs ≠ [] → (∀ e ∈ es, e.f0 ∈ vs ↔ e.f1 ∈ vs) → R es vs 0
theorem RecR.of {c : Int} {F : List E → List Int → Int} {R : List E → List Int → Int → Prop} (hF : Rec c F) (hR : RecR c R) : ∀ (m : Nat) (es : List E) (vs : List Int), es.length = m → (∀ x ∈ es, x.f0 ≠ x.f1) → vs.Nodup → R es vs (F es vs) := by
  intro m
  induction m with
  | zero =>
    intro es vs hm hl hn
    obtain rfl := List.length_eq_zero_iff.1 hm
    by_cases h : vs = []
    · rw [h, hF.nil]; exact hR.nil
    · rw [hF.far [] vs hl hn h (fun e he => by cases he)]; exact hR.far [] vs hl hn h (fun e he => by cases he)
  | succ m ih =>
    intro es vs hm hl hn
    by_cases h : ∃ e ∈ es, ∃ u v : Int, ((e.f0 = u ∧ e.f1 = v) ∨ (e.f0 = v ∧ e.f1 = u)) ∧ v ∈ vs ∧ u ∉ vs
    · obtain ⟨e, he, u, v, huv, hv, hu⟩ := h
      obtain ⟨l1, l2, rfl⟩ := List.append_of_mem he
      have hp : (l1 ++ e :: l2).Perm (e :: (l1 ++ l2)) := List.perm_middle
      have hl' : ∀ x ∈ l1 ++ l2, x.f0 ≠ x.f1 := fun x hx => hl x (by simp at hx ⊢; rcases hx with h | h <;> simp [h])
      have hm' : (l1 ++ l2).length = m := by simp at hm ⊢; omega
      rw [hF.perm hp, hF.cut e _ vs u v huv hl' hn hv hu]
      exact hR.perm hp.symm (hR.cut e _ vs u v _ _ huv hl' hn hv hu (ih _ vs hm' hl' hn) (ih _ (vs.erase v) hm' hl' (hn.erase v)))
    · have hfar : ∀ e ∈ es, e.f0 ∈ vs ↔ e.f1 ∈ vs := fun e he => ⟨fun h0 => Classical.byContradiction fun h1 => h ⟨e, he, e.f1, e.f0, .inr ⟨rfl, rfl⟩, h0, h1⟩, fun h1 => Classical.byContradiction fun h0 => h ⟨e, he, e.f0, e.f1, .inl ⟨rfl, rfl⟩, h1, h0⟩⟩
      by_cases hv : vs = []
      · subst hv
        cases es with
        | nil => simp at hm
        | cons e es =>
          rw [hF.loop e es [] (by simp) (by simp) (by simp)]
          exact hR.loop e es [] _ (by simp) (by simp) (by simp) (ih es [] (by simpa using hm) (fun x hx => hl x (List.mem_cons_of_mem _ hx)) hn)
      · rw [hF.far es vs hl hn hv hfar]
        exact hR.far es vs hl hn hv hfar
theorem Rec.unique {c : Int} {F G : List E → List Int → Int} (hF : Rec c F) (hG : Rec c G) {es : List E} {vs : List Int} (hl : ∀ x ∈ es, x.f0 ≠ x.f1) (hn : vs.Nodup) : G es vs = F es vs :=
  RecR.of hF (R := fun es vs k => G es vs = k) ⟨fun h k => (hG.perm h).symm.trans k, hG.nil, fun e es vs k hn h0 h1 h => by rw [hG.loop e es vs hn h0 h1, h], fun e es vs u v k k' huv hl hn hv hu h h' => by rw [hG.cut e es vs u v huv hl hn hv hu, h, h'], hG.far⟩ es.length es vs rfl hl hn
def unitC (v : Int) : Col := fun r => if r = v then 1 else 0
theorem detC_unit {v : Int} : ∀ {rs : List Int} {cs : List Col} {i p : Nat}, rs.length = cs.length → p < cs.length → rs.Nodup → rs[i]? = some v → detC rs (cs.set p (unitC v)) = sg (i + p) * detC (rs.eraseIdx i) (cs.eraseIdx p)
  | [], _, i, p, h, hp, _, hi => by simp at hi
  | r :: rs, cs, 0, p, h, hp, hn, hi => by
    obtain rfl : r = v := by simpa using hi
    have hv : r ∉ rs := (List.nodup_cons.1 hn).1
    obtain ⟨n, hcn⟩ : ∃ n, cs.length = n + 1 := ⟨cs.length - 1, by omega⟩
    have hrl : rs.length = n := by simp at h; omega
    have hz : ∀ k, k < cs.length → k ≠ p → detC rs ((cs.set p (unitC r)).eraseIdx k) = 0 := fun k hk hkp => by
      have hl : (cs.eraseIdx k).length = cs.length - 1 := by rw [List.length_eraseIdx, if_pos hk]
      have key : ∀ q : Nat, q < (cs.eraseIdx k).length → detC rs ((cs.eraseIdx k).set q (unitC r)) = 0 := fun q hq => by
        rw [← detC_null (rs := rs) (cs := cs.eraseIdx k) (p := q) (by omega) hq]
        refine detC_congr (by simp) fun j hj s hs => ?_
        rw [getD_set, getD_set]
        split
        · show (if s = r then (1 : Int) else 0) = 0
          rw [if_neg (fun e : s = r => hv (e ▸ hs))]
        · rfl
      by_cases d : k < p
      · rw [erase_set_lt _ d]; exact key _ (by omega)
      · rw [erase_set_gt _ (by omega)]; exact key _ (by omega)
    show alt (cs.set p (unitC r)).length (fun i => ((cs.set p (unitC r)).getD i z0) r * detC rs ((cs.set p (unitC r)).eraseIdx i)) = sg (0 + p) * detC rs (cs.eraseIdx p)
    rw [List.length_set, hcn, alt_split p n _ (by omega), alt_zero fun k hk => ?_]
    · rw [getD_set, if_pos ⟨rfl, hp⟩, erase_set_self]
      show sg p * ((if r = r then (1 : Int) else 0) * detC rs (cs.eraseIdx p)) + 0 = sg (0 + p) * detC rs (cs.eraseIdx p)
      rw [if_pos rfl, Int.one_mul, Int.add_zero, Nat.zero_add]
    · split
      · rw [hz k (by omega) (by omega), Int.mul_zero]
      · rw [hz (k + 1) (by omega) (by omega), Int.mul_zero]; rfl
  | r :: rs, cs, i + 1, p, h, hp, hn, hi => by
    have hi' : rs[i]? = some v := by simpa using hi
    have hrv : r ≠ v := fun e => (List.nodup_cons.1 hn).1 (e ▸ List.mem_of_getElem? hi')
    obtain ⟨n, hcn⟩ : ∃ n, cs.length = n + 1 := ⟨cs.length - 1, by omega⟩
    have hrl : rs.length = n := by simp at h; omega
    have hcp : (cs.eraseIdx p).length = n := by rw [List.length_eraseIdx, if_pos hp]; omega
    rw [List.eraseIdx_cons_succ]
    show alt (cs.set p (unitC v)).length (fun k => ((cs.set p (unitC v)).getD k z0) r * detC rs ((cs.set p (unitC v)).eraseIdx k)) = sg (i + 1 + p) * alt (cs.eraseIdx p).length (fun k => ((cs.eraseIdx p).getD k z0) r * detC (rs.eraseIdx i) ((cs.eraseIdx p).eraseIdx k))
    rw [List.length_set, hcn, hcp, alt_split p n _ (by omega), getD_set, if_pos ⟨rfl, hp⟩, ← alt_mul]
    have e0 : unitC v r = 0 := if_neg hrv
    rw [e0, Int.zero_mul, Int.mul_zero, Int.zero_add]
    refine alt_congr fun k hk => ?_
    by_cases d : k < p
    · have hl : (cs.eraseIdx k).length = n := by rw [List.length_eraseIdx, if_pos (by omega)]; omega
      rw [if_pos d, getD_set, if_neg (by omega), erase_set_lt _ d, detC_unit (by omega) (by omega) (List.nodup_cons.1 hn).2 hi', erase_erase _ d, getD_erase, if_pos d]
      have hs : sg (i + (p - 1)) = sg (i + 1 + p) := by rw [show i + 1 + p = i + (p - 1) + 2 by omega, sg_two]
      rw [hs, Int.mul_left_comm]
    · have hl : (cs.eraseIdx (k + 1)).length = n := by rw [List.length_eraseIdx, if_pos (by omega)]; omega
      have he := erase_erase cs (j := k + 1) (k := p) (by omega)
      rw [if_neg d, getD_set, if_neg (by omega), erase_set_gt _ (by omega), detC_unit (by omega) (by omega) (List.nodup_cons.1 hn).2 hi', ← he, getD_erase, if_neg d, show k + 1 - 1 = k by omega]
      have hs : sg (i + 1 + p) = - sg (i + p) := by rw [show i + 1 + p = (i + p) + 1 by omega]; rfl
      rw [hs, Int.mul_left_comm, Int.neg_mul]
def lapM (es : List E) (r c : Int) : Int := if r = c then val es r else - mult es r c
def dlap (es : List E) (vs : List Int) : Int := detC vs (vs.map fun c r => lapM es r c)
theorem sumE_perm {es es' : List E} (h : es.Perm es') (f : E → Int) : sumE es f = sumE es' f := by
  induction h with
  | nil => rfl
  | cons x _ ih => rw [sumE_cons, sumE_cons, ih]
  | swap x y l => rw [sumE_cons, sumE_cons, sumE_cons, sumE_cons]; omega
  | trans _ _ h1 h2 => exact h1.trans h2
theorem lapM_perm {es es' : List E} (h : es.Perm es') : lapM es = lapM es' := by
  funext r c
  unfold lapM val mult
  rw [sumE_perm h, sumE_perm h]
theorem lapM_cons (e : E) (es : List E) (r c : Int) : lapM (e :: es) r c = (if r = c then valE r e else - multE r c e) + lapM es r c := by
  unfold lapM val mult
  rw [sumE_cons, sumE_cons]
  split <;> omega
theorem getD_map {α β : Type} (f : α → β) (l : List α) (i : Nat) (d : α) (d' : β) (h : i < l.length) : (l.map f).getD i d' = f (l.getD i d) := by
  rw [List.getD_eq_getElem?_getD, List.getElem?_map, List.getD_eq_getElem?_getD, List.getElem?_eq_getElem h]
  rfl
theorem getD_mem {α : Type} {l : List α} {i : Nat} (d : α) (h : i < l.length) : l.getD i d ∈ l := by
  rw [List.getD_eq_getElem?_getD, List.getElem?_eq_getElem h]
  exact List.getElem_mem h
theorem map_eraseIdx {α β : Type} (f : α → β) (l : List α) (i : Nat) : (l.map f).eraseIdx i = (l.eraseIdx i).map f := by
  apply List.ext_getElem?
  intro k
  simp only [List.getElem?_eraseIdx, List.getElem?_map]
  split <;> rfl
/-- Only what it says on vs. -/
theorem dlap_congr {es es' : List E} {vs : List Int} (h : ∀ r ∈ vs, ∀ c ∈ vs, lapM es r c = lapM es' r c) : dlap es vs = dlap es' vs := by
  unfold dlap
  refine detC_congr (by simp) fun i hi r hr => ?_
  rw [List.length_map] at hi
  rw [getD_map _ _ _ (0 : Int) _ hi, getD_map _ _ _ (0 : Int) _ hi]
  exact h r hr _ (getD_mem _ hi)
theorem nodup_idx {l : List Int} (hn : l.Nodup) {i j : Nat} (hi : i < l.length) (hj : j < l.length) (h : l.getD i 0 = l.getD j 0) : i = j := by
  rw [List.getD_eq_getElem?_getD, List.getD_eq_getElem?_getD, List.getElem?_eq_getElem hi, List.getElem?_eq_getElem hj] at h
  simp only [Option.getD_some] at h
  apply Classical.byContradiction
  intro hne
  rcases Nat.lt_or_gt_of_ne hne with hlt | hlt
  · exact List.pairwise_iff_getElem.1 hn i j hi hj hlt h
  · exact List.pairwise_iff_getElem.1 hn j i hj hi hlt h.symm
theorem dlap_cut (e : E) (es : List E) {vs : List Int} {u v : Int} (huv : (e.f0 = u ∧ e.f1 = v) ∨ (e.f0 = v ∧ e.f1 = u)) (hn : vs.Nodup) (hv : v ∈ vs) (hu : u ∉ vs) : dlap (e :: es) vs = dlap es vs + dlap es (vs.erase v) := by
  obtain ⟨p, hp, hpv⟩ := List.getElem_of_mem hv
  have hpd : vs.getD p 0 = v := by rw [List.getD_eq_getElem?_getD, List.getElem?_eq_getElem hp]; exact hpv
  have hml : (vs.map fun c r => lapM es r c).length = vs.length := by simp
  have e1 : dlap (e :: es) vs = detC vs ((vs.map fun c r => lapM es r c).set p fun r => (fun r => lapM es r v) r + unitC v r) := by
    unfold dlap
    refine detC_congr (by simp) fun i hi r hr => ?_
    rw [List.length_map] at hi
    rw [getD_map _ _ _ (0 : Int) _ hi, getD_set, hml]
    have hru : r ≠ u := fun x => hu (x ▸ hr)
    have hcu : vs.getD i 0 ≠ u := fun x => hu (x ▸ getD_mem 0 hi)
    by_cases c : i = p
    · rw [if_pos ⟨c, hp⟩, c, hpd, lapM_cons]
      show _ = lapM es r v + (if r = v then 1 else 0)
      by_cases d : r = v
      · rw [if_pos d, if_pos d, d]
        have : valE v e = 1 := by unfold valE; rw [if_pos]; rcases huv with h | h <;> omega
        omega
      · rw [if_neg d, if_neg d]
        have : multE r v e = 0 := by unfold multE; rw [if_neg]; rcases huv with h | h <;> omega
        omega
    · rw [if_neg (fun x => c x.1), getD_map _ _ _ (0 : Int) _ hi, lapM_cons]
      have hcv : vs.getD i 0 ≠ v := fun x => c (nodup_idx hn hi hp (x.trans hpd.symm))
      generalize vs.getD i 0 = w at hcu hcv
      by_cases d : r = w
      · rw [if_pos d]
        have : valE r e = 0 := by unfold valE; rw [if_neg]; rcases huv with h | h <;> omega
        omega
      · rw [if_neg d]
        have : multE r w e = 0 := by unfold multE; rw [if_neg]; rcases huv with h | h <;> omega
        omega
  have e2 : (vs.map fun c r => lapM es r c).set p (fun r => lapM es r v) = vs.map fun c r => lapM es r c := by
    have := set_self (l := vs.map fun c r => lapM es r c) z0 (by rw [hml]; exact hp)
    rw [getD_map _ _ _ (0 : Int) _ hp, hpd] at this
    exact this
  have e3 : vs.eraseIdx p = vs.erase v := by
    rw [List.erase_eq_eraseIdx_of_idxOf]
    rw [← hpv]
    exact List.Nodup.idxOf_getElem hn p hp
  rw [e1, detC_add _ _ (by simp) (by rw [hml]; exact hp), e2, detC_unit (by simp) (by rw [hml]; exact hp) hn (i := p) (by rw [List.getElem?_eq_getElem hp, hpv]), sg_even, Int.one_mul, map_eraseIdx, e3]
  rfl
theorem sum_neg' (l : List Int) (f : Int → Int) : (l.map fun x => - f x).sum = - (l.map f).sum := by
  induction l with
  | nil => rfl
  | cons x l ih => rw [List.map_cons, List.sum_cons, List.map_cons, List.sum_cons, ih]; omega
theorem sum_zero' (l : List Int) {f : Int → Int} (h : ∀ x ∈ l, f x = 0) : (l.map f).sum = 0 := by
  induction l with
  | nil => rfl
  | cons x l ih => rw [List.map_cons, List.sum_cons, h x List.mem_cons_self, ih fun y hy => h y (List.mem_cons_of_mem _ hy)]; rfl
/-- No edge to the roots: each row adds up to nothing. -/
theorem lapM_sum {vs : List Int} (hn : vs.Nodup) {r : Int} (hr : r ∈ vs) : ∀ {es : List E}, (∀ x ∈ es, x.f0 ≠ x.f1) → (∀ e ∈ es, e.f0 ∈ vs ↔ e.f1 ∈ vs) → (vs.map fun c => lapM es r c).sum = 0
  | [], _, _ => sum_zero' _ fun x _ => by
    unfold lapM val mult
    rw [sumE_nil, sumE_nil]
    split <;> rfl
  | e :: es, hl, hf => by
    have ih := lapM_sum hn hr (es := es) (fun x hx => hl x (List.mem_cons_of_mem _ hx)) fun x hx => hf x (List.mem_cons_of_mem _ hx)
    have h0 := hl e List.mem_cons_self
    have h1 := hf e List.mem_cons_self
    have ha := sum_add vs (fun c => if r = c then valE r e else - multE r c e) (fun c => lapM es r c)
    simp only [← lapM_cons] at ha
    rw [ha, ih, Int.add_zero]
    have two : ∀ x, x ≠ r → x ∈ vs → (∀ c, multE r c e = if c = x then 1 else 0) → valE r e = 1 → (vs.map fun c => if r = c then valE r e else - multE r c e).sum = 0 := by
      intro x hx hxv hm hv
      have e1 : (vs.map fun c => if r = c then valE r e else - multE r c e) = vs.map fun c => (if r = c then (1 : Int) else 0) + - (if x = c then 1 else 0) := by
        refine List.map_congr_left fun c _ => ?_
        by_cases d : r = c
        · rw [if_pos d, if_pos d, if_neg (show ¬ x = c by omega), hv]; rfl
        · rw [if_neg d, if_neg d, hm c]
          by_cases d2 : c = x
          · rw [if_pos d2, if_pos d2.symm]; rfl
          · rw [if_neg d2, if_neg (fun q => d2 q.symm)]; rfl
      rw [e1, sum_add vs (fun c => if r = c then (1 : Int) else 0) (fun c => - (if x = c then 1 else 0)), sum_neg' vs (fun c => if x = c then 1 else 0), sum_ind r vs hn, sum_ind x vs hn, if_pos hr, if_pos hxv]
      rfl
    by_cases a : e.f0 = r
    · refine two e.f1 (by omega) (h1.1 (a ▸ hr)) (fun c => ?_) (by unfold valE; rw [if_pos (.inl a)])
      unfold multE
      by_cases d : c = e.f1
      · rw [if_pos d, if_pos (.inl ⟨a, d.symm⟩)]
      · rw [if_neg d, if_neg (by omega)]
    · by_cases b : e.f1 = r
      · refine two e.f0 a (h1.2 (b ▸ hr)) (fun c => ?_) (by unfold valE; rw [if_pos (.inr b)])
        unfold multE
        by_cases d : c = e.f0
        · rw [if_pos d, if_pos (.inr ⟨d.symm, b⟩)]
        · rw [if_neg d, if_neg (by omega)]
      · refine sum_zero' _ fun c _ => ?_
        have e1 : valE r e = 0 := by unfold valE; rw [if_neg (by omega)]
        have e2 : multE r c e = 0 := by unfold multE; rw [if_neg (by omega)]
        rw [e1, e2]
        split <;> rfl
theorem dlap_far {es : List E} {vs : List Int} (hl : ∀ x ∈ es, x.f0 ≠ x.f1) (hn : vs.Nodup) (hv : vs ≠ []) (hf : ∀ e ∈ es, e.f0 ∈ vs ↔ e.f1 ∈ vs) : dlap es vs = 0 := by
  cases vs with
  | nil => exact absurd rfl hv
  | cons v vs =>
    have hc := detC_comb (rs := v :: vs) (cs := (v :: vs).map fun c r => lapM es r c) (p := 0) (by simp) (by simp) ((List.range vs.length).map fun j => (-1, j + 1)) (fun x hx => by
      obtain ⟨j, hj, rfl⟩ := List.mem_map.1 hx
      have := List.mem_range.1 hj
      simp
      omega)
    rw [← hc]
    unfold dlap
    refine detC_congr (by simp) fun i hi r hr => ?_
    rw [List.length_map] at hi
    rw [getD_set]
    by_cases c : i = 0
    · rw [if_pos ⟨c, by simp⟩, c, getD_map _ _ _ (0 : Int) _ (by simp)]
      have hs := lapM_sum hn hr hl hf
      rw [List.map_cons, List.sum_cons] at hs
      show lapM es r v = _
      have e1 : (((List.range vs.length).map fun j => ((-1 : Int), j + 1)).map fun x => x.1 * (((v :: vs).map fun c r => lapM es r c).getD x.2 z0) r) = vs.map fun c => - lapM es r c := by
        rw [List.map_map]
        apply List.ext_getElem (by simp)
        intro j h1 h2
        have hj : j < vs.length := by simpa using h2
        simp [List.getD, hj]
      rw [e1, sum_neg' vs (fun c => lapM es r c)]
      omega
    · rw [if_neg (fun x => c x.1)]
theorem dlap_rec : Rec 1 dlap where
  perm := fun h => by unfold dlap; rw [lapM_perm h]
  nil := rfl
  loop := fun e es vs _ h0 h1 => by
    rw [Int.one_mul]
    refine dlap_congr fun r hr c hc => ?_
    rw [lapM_cons]
    have a : e.f0 ≠ r := fun x => h0 (x ▸ hr)
    have b : e.f1 ≠ r := fun x => h1 (x ▸ hr)
    have e1 : valE r e = 0 := by unfold valE; rw [if_neg (by omega)]
    have e2 : multE r c e = 0 := by unfold multE; rw [if_neg (by omega)]
    rw [e1, e2]
    split <;> omega
  cut := fun e es vs u v huv _ hn hv hu => dlap_cut e es huv hn hv hu
  far := fun es vs hl hn hv hf => dlap_far hl hn hv hf
end Go.Proofs.Ytdfibdjjoplmmaa.Cf
end

section
namespace Go.Proofs.Ytdfibdjjoplmmaa.Cf
set_option linter.unusedVariables false
set_option linter.unusedSimpArgs false
open Go.RowKit Go.Proofs.YtdfibdjjoplmmaaW.PrintWords Go.Proofs.Ytdfibdjjoplmmaa.P
def lapRow (n : Nat) (es : List E) (r : Int) : List Int := repL n fun c => lapM es r c
def lapL (n : Nat) (es : List E) : List (List Int) := (List.range n).map fun r : Nat => lapRow n es (r : Int)
theorem lapL_len (n : Nat) (es : List E) : (lapL n es).length = n := by simp [lapL]
theorem lapM_bd {es : List E} (hel : es.length ≤ 12) (r c : Int) : -12 ≤ lapM es r c ∧ lapM es r c ≤ 12 := by
  have h1 := val_nonneg es r
  have h2 := val_le es r
  have h3 := mult_nonneg es r c
  have h4 := mult_le es r c
  unfold lapM
  split <;> omega
theorem implLap_l1 {n : Nat} {es : List E} (hes : ∀ e ∈ es, EOk n e) (hel : es.length ≤ 12) (hn : n ≤ 6) {M : List (List Int)} (hM : M.length ≤ 6) {v : Nat} (hv : v < n) {Q : List (List Int) → Prop}
    (hQ : Ep (fun k => impl_LaplacianOf.l0 k (M ++ [lapRow n es (v : Int)]) ((v + 1 : Nat) : Int) (n : Int) es) Q) : ∀ (d i : Nat) (x : List Int), i + d = n → Rep n x (fun w => if w < i then - mult es (v : Int) w else 0) →
    Ep (fun k => impl_LaplacianOf.l1 k M (v : Int) x (n : Int) (i : Int) (n : Int) es) Q := by
  intro d
  induction d with
  | zero =>
    intro i x hi hx
    refine Ep.up ?_
    simp only [impl_LaplacianOf.l1]
    refine Ep.neg (by omega) (Ep.bind (implValence _ es _ (by omega)) ?_)
    rintro _ rfl
    refine Ep.pos (by omega) (Ep.pos (by have := hx.1; omega) (Ep.pos (by omega) ?_))
    have e : x.set ((v : Int)).toNat (valG (n : Int) es (v : Int)) = lapRow n es (v : Int) := ((hx.set (v := (v : Int)) (by omega) (by omega) _).congr fun w w0 w1 => by
      unfold lapM
      by_cases c : w = v
      · rw [if_pos c, if_pos c.symm, valG_in ⟨by omega, by omega⟩]
      · rw [if_neg c, if_pos (by omega), if_neg (fun q => c q.symm)]).eq
    rw [e, wrap_succ (by omega)]
    exact hQ
  | succ d ih =>
    intro i x hi hx
    refine Ep.up ?_
    simp only [impl_LaplacianOf.l1]
    refine Ep.pos (by omega) (Ep.bind (implMult _ es hes hel _ _ ⟨by omega, by omega⟩ ⟨by omega, by omega⟩) ?_)
    rintro _ rfl
    have hm0 := mult_nonneg es (v : Int) (i : Int)
    have hm1 := mult_le es (v : Int) (i : Int)
    refine Ep.pos (by omega) (Ep.pos (by have := hx.1; omega) ?_)
    rw [wrap_id (by omega) (by omega), wrap_succ (by omega)]
    refine ih (i + 1) _ (by omega) ((hx.set (v := (i : Int)) (by omega) (by omega) _).congr fun w w0 w1 => ?_)
    by_cases c : w = i
    · rw [if_pos c, if_pos (by omega), c]
    · rw [if_neg c]
      by_cases c2 : w < i
      · rw [if_pos c2, if_pos (by omega)]
      · rw [if_neg c2, if_neg (by omega)]
theorem lapL_take {n : Nat} (es : List E) {v : Nat} (hv : v < n) : (lapL n es).take (v + 1) = (lapL n es).take v ++ [lapRow n es (v : Int)] := by
  rw [List.take_succ_eq_append_getElem (by rw [lapL_len]; exact hv)]
  simp [lapL]
theorem implLap_l0 {n : Nat} {es : List E} (hes : ∀ e ∈ es, EOk n e) (hel : es.length ≤ 12) (hn : n ≤ 6) : ∀ (d v : Nat), v + d = n → Ep (fun k => impl_LaplacianOf.l0 k ((lapL n es).take v) (v : Int) (n : Int) es) (· = lapL n es) := by
  intro d
  induction d with
  | zero =>
    intro v hv
    refine Ep.up ?_
    simp only [impl_LaplacianOf.l0]
    refine Ep.neg (by omega) (Ep.now ?_)
    rw [List.take_of_length_le (by rw [lapL_len]; omega)]
  | succ d ih =>
    intro v hv
    have h1 := ih (v + 1) (by omega)
    rw [lapL_take es (by omega)] at h1
    refine Ep.up ?_
    simp only [impl_LaplacianOf.l0]
    refine Ep.pos (by omega) (Ep.pos (by omega) (Ep.pos (by omega) (Ep.bind0 rfl ?_)))
    rw [Int.toNat_natCast, List.length_replicate]
    exact implLap_l1 hes hel hn (by rw [List.length_take]; omega) (by omega) h1 n 0 _ (by omega) ((Rep.zero n).congr fun w w0 w1 => by rw [if_neg (by omega)])
theorem implLap {n : Nat} {es : List E} (hg : GOk (n : Int) es) : Ep (fun k => impl_LaplacianOf.f k (n : Int) es) (· = lapL n es) := by
  have hG := hg.1
  unfold EsOk at hG
  simp only [impl_LaplacianOf.f]
  refine Ep.bind0 (implGraph _ _) ?_
  rw [gOk_iff.2 hg]
  refine Ep.pos rfl ?_
  have := implLap_l0 (n := n) hG.2.2.2 hG.2.2.1 (by omega) n 0 (by omega)
  simpa using this
/-- The vertices but q. -/
def vsL (n q : Nat) : List Int := ((List.range n).eraseIdx q).map fun i : Nat => (i : Int)
theorem vsL_nodup (n q : Nat) : (vsL n q).Nodup := by
  unfold vsL
  refine List.Pairwise.map _ (fun a b h => ?_) ((List.nodup_range (n := n)).sublist (List.eraseIdx_sublist _ _))
  omega
theorem vsL_mem {n q : Nat} (hq : q < n) {v : Int} : v ∈ vsL n q ↔ (0 ≤ v ∧ v < n) ∧ v ≠ q := by
  unfold vsL
  rw [List.mem_map]
  constructor
  · rintro ⟨i, hi, rfl⟩
    rw [List.mem_eraseIdx_iff_getElem] at hi
    obtain ⟨j, hj, hjq, hje⟩ := hi
    simp at hj hje
    omega
  · rintro ⟨⟨h0, h1⟩, h2⟩
    refine ⟨v.toNat, ?_, by omega⟩
    rw [List.mem_eraseIdx_iff_getElem]
    exact ⟨v.toNat, by simp; omega, by omega, by simp⟩
theorem vsL_len {n q : Nat} (hq : q < n) : (vsL n q).length = n - 1 := by
  unfold vsL
  rw [List.length_map, List.length_eraseIdx, if_pos (by simpa using hq), List.length_range]
def redM (n : Nat) (es : List E) (q : Nat) : List (List Int) := (vsL n q).map fun r => (vsL n q).map fun c => lapM es r c
theorem redM_len {n q : Nat} (hq : q < n) (es : List E) : (redM n es q).length = n - 1 := by unfold redM; rw [List.length_map, vsL_len hq]
theorem keep_erase (q : Nat) (L : List (List Int)) : ∀ i, i ≤ L.length → keepF q L i = ((L.take i).eraseIdx q).map fun r => r.eraseIdx q
  | 0, _ => by simp [keepF]
  | i + 1, h => by
    have hi : i < L.length := by omega
    have ih := keep_erase q L i (by omega)
    unfold keepF
    have hl : (L.take i).length = i := by rw [List.length_take]; omega
    rw [List.take_succ_eq_append_getElem hi]
    by_cases c : i = q
    · rw [if_pos c, ih, List.eraseIdx_append_of_length_le (by omega), hl, show q - i = 0 by omega, List.eraseIdx_of_length_le (l := L.take i) (by omega)]
      simp
    · rw [if_neg c, ih]
      have hg : L.getD i [] = L[i] := by simp [List.getD, hi]
      rw [hg]
      by_cases d : q < i
      · rw [List.eraseIdx_append_of_lt_length (by omega)]
        simp
      · rw [List.eraseIdx_append_of_length_le (by omega), List.eraseIdx_of_length_le (l := L.take i) (by omega), List.eraseIdx_of_length_le (l := [L[i]]) (by simp; omega), List.map_append]
        rfl
theorem keep_red {n q : Nat} (es : List E) : keepF q (lapL n es) (lapL n es).length = redM n es q := by
  rw [keep_erase q _ _ (Nat.le_refl _), List.take_length]
  unfold lapL redM vsL lapRow repL
  rw [map_eraseIdx, List.map_map]
  show _ = (((List.range n).eraseIdx q).map fun i : Nat => (i : Int)).map _
  rw [List.map_map]
  refine List.map_congr_left fun r _ => ?_
  show ((List.range n).map fun c : Nat => lapM es (r : Int) (c : Int)).eraseIdx q = (((List.range n).eraseIdx q).map fun i : Nat => (i : Int)).map _
  rw [map_eraseIdx, List.map_map]
  rfl
theorem implRL {n : Nat} {es : List E} (hg : GOk (n : Int) es) {q : Nat} (hq : q < n) : Ep (fun k => impl_ReducedLaplacian.f k (n : Int) es (q : Int)) (· = redM n es q) := by
  have hG := hg.1
  unfold EsOk at hG
  simp only [impl_ReducedLaplacian.f]
  refine Ep.bind0 (isVertex_eq (n : Int) es _ (by simp [Wf, Lit.wf, IntKind.min, IntKind.max, IntKind.signed, IntKind.bits]; omega)) ?_
  refine Ep.pos (by rw [gOk_iff.2 hg]; simp; omega) ?_
  refine Ep.bind (implLap hg) ?_
  rintro _ rfl
  have e : redF (q : Int) (lapL n es) = some (redM n es q) := by
    unfold redF
    rw [if_pos, Int.toNat_natCast, keep_red]
    refine ⟨by omega, by omega, by rw [lapL_len]; omega, fun r hr => ?_⟩
    unfold lapL at hr
    obtain ⟨i, _, rfl⟩ := List.mem_map.1 hr
    unfold lapRow
    rw [repL_len]
    omega
  exact Ep.congr (fun _ => e) (Ep.now rfl)
/-- A matrix of m rows and columns, its entries at most 12. -/
def SqOk (m : Nat) (M : List (List Int)) : Prop := M.length = m ∧ (∀ r ∈ M, r.length = m) ∧ ∀ r ∈ M, ∀ x ∈ r, -12 ≤ x ∧ x ≤ 12
theorem rd_bd {l : List Int} (h : ∀ x ∈ l, -12 ≤ x ∧ x ≤ 12) (i : Int) : -12 ≤ rd l i ∧ rd l i ≤ 12 := by
  unfold rd
  by_cases c : i.toNat < l.length
  · rw [List.getD_eq_getElem?_getD, List.getElem?_eq_getElem c]
    exact h _ (List.getElem_mem c)
  · rw [List.getD_eq_getElem?_getD, List.getElem?_eq_none (by omega)]
    simp
theorem SqOk.ent {m : Nat} {M : List (List Int)} (h : SqOk m M) (r c : Int) : -12 ≤ ent M r c ∧ ent M r c ≤ 12 := by
  unfold Cf.ent
  by_cases d : r.toNat < M.length
  · rw [List.getD_eq_getElem?_getD, List.getElem?_eq_getElem d]
    exact rd_bd (h.2.2 _ (List.getElem_mem d)) c
  · rw [List.getD_eq_getElem?_getD, List.getElem?_eq_none (by omega)]
    simp [rd]
theorem det_bd {m : Nat} {M : List (List Int)} (h : SqOk m M) {rs cs : List Int} (hr : rs.length ≤ 5) (hc : cs.length ≤ 6) : -1934917632 ≤ detL M rs cs ∧ detL M rs cs ≤ 1934917632 := by
  have h1 := detL_bd (B := 12) (by omega) h.ent rs cs hc
  have h2 : ((6 * 12 : Int)) ^ rs.length ≤ 1934917632 := by
    match hl : rs.length, hr with
    | 0, _ => decide
    | 1, _ => decide
    | 2, _ => decide
    | 3, _ => decide
    | 4, _ => decide
    | 5, _ => decide
  omega
theorem alt_shift (n : Nat) (g : Nat → Int) (p : Nat) : alt (n + 1) (fun i => g (p + i)) = g p - alt n (fun i => g (p + 1 + i)) := by
  show g (p + 0) - _ = _
  rw [Nat.add_zero]
  congr 1
  exact alt_congr fun i _ => by show g (p + (i + 1)) = _; rw [show p + (i + 1) = p + 1 + i by omega]
theorem implDet_l0 {m : Nat} (hm : m ≤ 5) {M : List (List Int)} (hM : SqOk m M) {r : Int} {rs : List Int} (hr : 0 ≤ r ∧ r < m) (hrs : rs.length ≤ 4) {b : Nat} (hb : b < 2 ^ m)
    (ih : ∀ b' : Nat, b' < 2 ^ m → Ep (fun k => impl_determinant.f k M rs (b' : Int)) (· = detL M rs (bitsL b'))) :
    ∀ (d c : Nat) (s σ : Int), c + d = m → (σ = 1 ∨ σ = -1) → (-(c * 23219011584 : Int) ≤ s ∧ s ≤ c * 23219011584) →
      Ep (fun k => impl_determinant.l0 k M (r :: rs) (b : Int) s σ (rd_L3 M r) (m : Int) (c : Int))
        (· = s + σ * alt ((bitsL b).length - (bitsB b c).length) fun i => ent M r ((bitsL b).getD ((bitsB b c).length + i) 0) * detL M rs ((bitsL b).eraseIdx ((bitsB b c).length + i))) := by
  have h32 : (2 : Nat) ^ m ≤ 32 := by
    have := Nat.pow_le_pow_right (show 0 < 2 by omega) hm
    omega
  have hrow : (rd_L3 M r).length = m := by
    unfold rd_L3
    rw [List.getD_eq_getElem?_getD, List.getElem?_eq_getElem (by have := hM.1; omega)]
    exact hM.2.1 _ (List.getElem_mem _)
  intro d
  induction d with
  | zero =>
    intro c s σ hc hσ hs
    refine Ep.up ?_
    simp only [impl_determinant.l0]
    refine Ep.neg (by omega) (Ep.now ?_)
    have e := bm_all ⟨b, by omega⟩ ⟨c, by omega⟩ (by simp; rw [show c = m by omega]; exact hb)
    simp only at e
    rw [e, Nat.sub_self]
    simp [alt]
  | succ d ihd =>
    intro c s σ hc hσ hs
    refine Ep.up ?_
    simp only [impl_determinant.l0]
    refine Ep.pos (by omega) (Ep.pos (by omega) (Ep.pos (by omega) ?_))
    rw [wrap_succ (by omega)]
    have hsu := bitsB_succ b c
    rcases bm_val ⟨b, by omega⟩ ⟨c, by omega⟩ with ⟨b1, b2⟩ | ⟨b1, b2⟩
    · simp only at b1 b2
      rw [if_pos b2] at hsu
      obtain ⟨m', e1, e2, e3, e4⟩ := bm_drop ⟨b, by omega⟩ ⟨c, by omega⟩ b2
      simp only at e1 e2 e3 e4
      have hp : (bitsB b c).length < (bitsL b).length := by
        rw [List.getElem?_eq_some_iff] at e3
        exact e3.1
      have hg : (bitsL b).getD (bitsB b c).length 0 = (c : Int) := by rw [List.getD_eq_getElem?_getD, e3]; rfl
      have hl1 : (bitsB b (c + 1)).length = (bitsB b c).length + 1 := by rw [hsu]; simp
      have hsplit : (bitsL b).length - (bitsB b c).length = ((bitsL b).length - (bitsB b (c + 1)).length) + 1 := by omega
      have hent : rd (rd_L3 M r) (c : Int) = ent M r (c : Int) := rfl
      have hbd := hM.ent r (c : Int)
      have hdb := det_bd hM (rs := rs) (cs := bitsL m'.val) (by omega) (by have := bitsB_len m'.val 6; exact this)
      rw [hsplit, alt_shift _ (fun i => ent M r ((bitsL b).getD i 0) * detL M rs ((bitsL b).eraseIdx i)), hg, ← e2, ← hl1]
      refine Ep.neg (by rw [b1]; omega) ?_
      rw [hent]
      by_cases hz : ent M r (c : Int) = 0
      · refine Ep.pos hz ?_
        have hneg : wrap64 (-σ) = -σ := wrap_id (by omega) (by omega)
        rw [hneg]
        refine (ihd (c + 1) s (-σ) (by omega) (by omega) (by omega)).mono fun v hv => ?_
        rw [hv, hz, Int.zero_mul, Int.zero_sub, Int.mul_neg, Int.neg_mul]
      · refine Ep.neg hz (Ep.pos (by rw [List.length_cons]; omega) ?_)
        rw [e1]
        refine Ep.bind (ih m'.val (by omega)) ?_
        rintro _ rfl
        have hneg : wrap64 (-σ) = -σ := wrap_id (by omega) (by omega)
        have hprod := mul_bd hbd hdb
        have e5 : wrap64 (σ * ent M r (c : Int)) = σ * ent M r (c : Int) := by
          rcases hσ with rfl | rfl
          · exact wrap_id (by omega) (by omega)
          · exact wrap_id (by omega) (by omega)
        have e6 : σ * ent M r (c : Int) * detL M rs (bitsL m'.val) = σ * (ent M r (c : Int) * detL M rs (bitsL m'.val)) := Int.mul_assoc _ _ _
        have hb2 : -(23219011584 : Int) ≤ σ * (ent M r (c : Int) * detL M rs (bitsL m'.val)) ∧ σ * (ent M r (c : Int) * detL M rs (bitsL m'.val)) ≤ 23219011584 := by
          rcases hσ with rfl | rfl <;> omega
        rw [e5, e6]
        have e7 : wrap64 (σ * (ent M r (c : Int) * detL M rs (bitsL m'.val))) = σ * (ent M r (c : Int) * detL M rs (bitsL m'.val)) := wrap_id (by omega) (by omega)
        have e8 : wrap64 (s + σ * (ent M r (c : Int) * detL M rs (bitsL m'.val))) = s + σ * (ent M r (c : Int) * detL M rs (bitsL m'.val)) := wrap_id (by omega) (by omega)
        rw [e7, e8, hneg]
        refine (ihd (c + 1) _ (-σ) (by omega) (by omega) (by omega)).mono fun v hv => ?_
        rw [hv, Int.mul_sub, Int.neg_mul]
        omega
    · simp only at b1 b2
      have b2' : ¬ b.testBit c = true := by simpa using b2
      rw [if_neg b2', List.append_nil] at hsu
      refine Ep.pos b1 ?_
      have h := ihd (c + 1) s σ (by omega) hσ (by omega)
      rw [hsu] at h
      exact h
theorem implDet {m : Nat} (hm : m ≤ 5) {M : List (List Int)} (hM : SqOk m M) : ∀ (rs : List Int), rs.length ≤ 5 → (∀ r ∈ rs, 0 ≤ r ∧ r < (m : Int)) → ∀ b : Nat, b < 2 ^ m → Ep (fun k => impl_determinant.f k M rs (b : Int)) (· = detL M rs (bitsL b))
  | [], _, _, b, _ => by
    refine Ep.up ?_
    simp only [impl_determinant.f]
    exact Ep.pos rfl (Ep.now rfl)
  | r :: rs, hl, hr, b, hb => by
    have hr0 := hr r List.mem_cons_self
    have hrow : (rd_L3 M r).length = m := by
      unfold rd_L3
      rw [List.getD_eq_getElem?_getD, List.getElem?_eq_getElem (by have := hM.1; omega)]
      exact hM.2.1 _ (List.getElem_mem _)
    have ih := implDet hm hM rs (by simp at hl; omega) (fun x hx => hr x (List.mem_cons_of_mem _ hx))
    refine Ep.up ?_
    simp only [impl_determinant.f]
    have e : rd (r :: rs) 0 = r := rfl
    refine Ep.neg (by rw [List.length_cons]; omega) (Ep.pos (by rw [List.length_cons]; omega) (Ep.pos (by rw [e]; exact hr0.1) (Ep.pos (by rw [e, hM.1]; exact hr0.2) ?_)))
    rw [e, hrow]
    refine (implDet_l0 hm hM hr0 (by simp at hl; omega) hb ih m 0 0 1 (by omega) (Or.inl rfl) (by omega)).mono fun v hv => ?_
    rw [hv, show (bitsB b 0).length = 0 from rfl]
    simp only [Nat.sub_zero, Nat.zero_add, Int.zero_add, Int.one_mul]
    rfl
theorem implMat_l0 {m : Nat} (hm : m ≤ 5) {M : List (List Int)} (hM : SqOk m M) : ∀ (d i : Nat), i + d = m → Ep (fun k => impl_MatrixOk.l0 k M M (m : Int) (i : Int)) (· = true) := by
  intro d
  induction d with
  | zero =>
    intro i hi
    refine Ep.up ?_
    simp only [impl_MatrixOk.l0]
    exact Ep.neg (by omega) (Ep.now rfl)
  | succ d ih =>
    intro i hi
    have hml := hM.1
    have hlt : i < M.length := by omega
    have e : rd_L3 M (i : Int) = M[i] := by
      unfold rd_L3
      rw [Int.toNat_natCast, List.getD_eq_getElem?_getD, List.getElem?_eq_getElem hlt]
      rfl
    have h1 := hM.2.1 _ (List.getElem_mem hlt)
    have h2 := hM.2.2 _ (List.getElem_mem hlt)
    refine Ep.up ?_
    simp only [impl_MatrixOk.l0]
    refine Ep.pos (by omega) (Ep.pos (by omega) (Ep.pos (by omega) (Ep.pos (by rw [e]; omega) ?_)))
    rw [e]
    refine Ep.bind (allWithin_ok _ _ _ (by omega)) ?_
    rintro _ rfl
    refine Ep.pos (decide_eq_true fun x hx => by have := h2 x hx; omega) ?_
    rw [wrap_succ (by omega)]
    exact ih (i + 1) (by omega)
theorem implMatrixOk {m : Nat} (hm : m ≤ 5) {M : List (List Int)} (hM : SqOk m M) : Ep (fun k => impl_MatrixOk.f k M) (· = true) := by
  simp only [impl_MatrixOk.f]
  have hml := hM.1
  refine Ep.neg (by omega) ?_
  rw [hml]
  exact implMat_l0 hm hM m 0 (by omega)
/-- 0 .. m - 1. -/
def upTo (m : Nat) : List Int := (List.range m).map fun j : Nat => (j : Int)
theorem implDeterminant {m : Nat} (hm : m ≤ 5) {M : List (List Int)} (hM : SqOk m M) : Ep (fun k => impl_Determinant.f k M) (· = detL M (upTo m) (upTo m)) := by
  simp only [impl_Determinant.f]
  refine Ep.bind (implMatrixOk hm hM) ?_
  rintro _ rfl
  refine Ep.pos rfl ?_
  obtain ⟨h1, h2, h3, h4⟩ := bm_full (i := m) (by omega)
  rw [hM.1, h2]
  refine Ep.bind (implBits h4) ?_
  rintro _ rfl
  rw [h1]
  have hpos : 0 < 2 ^ m := Nat.pow_pos (by omega)
  refine Ep.bind (implDet hm hM _ (by simp; exact hm) (fun r hr => ?_) (2 ^ m - 1) (by omega)) ?_
  · obtain ⟨j, hj, rfl⟩ := List.mem_map.1 hr
    have := List.mem_range.1 hj
    omega
  · rintro _ rfl
    rw [h1]
    exact Ep.now rfl
theorem redM_sq {n q : Nat} (hq : q < n) {es : List E} (hel : es.length ≤ 12) : SqOk (n - 1) (redM n es q) := by
  refine ⟨redM_len hq es, fun r hr => ?_, fun r hr x hx => ?_⟩
  · unfold redM at hr
    obtain ⟨v, _, rfl⟩ := List.mem_map.1 hr
    rw [List.length_map, vsL_len hq]
  · unfold redM at hr
    obtain ⟨v, _, rfl⟩ := List.mem_map.1 hr
    obtain ⟨w, _, rfl⟩ := List.mem_map.1 hx
    exact lapM_bd hel _ _
/-- The i-th vertex of a list. -/
def vAt (vs : List Int) (i : Int) : Int := vs.getD i.toNat 0
theorem redM_ent {n q : Nat} (hq : q < n) (es : List E) {r c : Int} (hr : 0 ≤ r ∧ r < ((n - 1 : Nat) : Int)) (hc : 0 ≤ c ∧ c < ((n - 1 : Nat) : Int)) : ent (redM n es q) r c = lapM es (vAt (vsL n q) r) (vAt (vsL n q) c) := by
  have hl := vsL_len hq
  unfold ent redM rd vAt
  rw [getD_map (fun r => (vsL n q).map fun c => lapM es r c) (vsL n q) r.toNat 0 [] (by omega), getD_map (fun c => lapM es _ c) (vsL n q) c.toNat 0 0 (by omega)]
theorem detL_detC {M : List (List Int)} {A : Int → Int → Int} {v : Int → Int} : ∀ (rs cs : List Int), (∀ r ∈ rs, ∀ c ∈ cs, ent M r c = A (v r) (v c)) → detL M rs cs = detC (rs.map v) (cs.map fun c r => A r (v c))
  | [], cs, _ => rfl
  | r :: rs, cs, h => by
    show (alt cs.length fun i => ent M r (cs.getD i 0) * detL M rs (cs.eraseIdx i)) = alt (cs.map fun c r => A r (v c)).length fun i => ((cs.map fun c r => A r (v c)).getD i z0) (v r) * detC (rs.map v) ((cs.map fun c r => A r (v c)).eraseIdx i)
    rw [List.length_map]
    refine alt_congr fun i hi => ?_
    rw [getD_map (fun c r => A r (v c)) cs i 0 z0 hi, map_eraseIdx, detL_detC rs (cs.eraseIdx i) fun r' hr' c hc => h r' (List.mem_cons_of_mem _ hr') c (List.mem_of_mem_eraseIdx hc), h r List.mem_cons_self _ (getD_mem 0 hi)]
theorem upTo_mem {m : Nat} {x : Int} : x ∈ upTo m ↔ 0 ≤ x ∧ x < m := by
  unfold upTo
  rw [List.mem_map]
  constructor
  · rintro ⟨j, hj, rfl⟩
    have := List.mem_range.1 hj
    omega
  · exact fun h => ⟨x.toNat, List.mem_range.2 (by omega), by omega⟩
theorem upTo_vAt (vs : List Int) : (upTo vs.length).map (vAt vs) = vs := by
  unfold upTo
  rw [List.map_map]
  refine List.ext_getElem (by simp) fun i h1 h2 => ?_
  simp [vAt, List.getD, h2]
theorem redM_det {n q : Nat} (hq : q < n) (es : List E) : detL (redM n es q) (upTo (n - 1)) (upTo (n - 1)) = dlap es (vsL n q) := by
  rw [detL_detC (A := lapM es) (v := vAt (vsL n q)) _ _ fun r hr c hc => redM_ent hq es (upTo_mem.1 hr) (upTo_mem.1 hc)]
  unfold dlap
  have e := upTo_vAt (vsL n q)
  rw [vsL_len hq] at e
  have e2 : (upTo (n - 1)).map (fun (c r : Int) => lapM es r (vAt (vsL n q) c)) = ((upTo (n - 1)).map (vAt (vsL n q))).map fun c r => lapM es r c := by rw [List.map_map]; rfl
  rw [e2, e]
theorem implCountTrees {n : Nat} {es : List E} (hg : GOk (n : Int) es) : Ep (fun k => impl_CountTrees.f k (n : Int) es) (· = dlap es (vsL n 0)) := by
  have hG := hg.1
  unfold EsOk at hG
  simp only [impl_CountTrees.f]
  refine Ep.bind0 (implGraph _ _) ?_
  rw [gOk_iff.2 hg]
  refine Ep.pos rfl (Ep.bind (implRL hg (q := 0) (by omega)) ?_)
  rintro _ rfl
  refine Ep.bind (implDeterminant (by omega) (redM_sq (q := 0) (by omega) hG.2.2.1)) ?_
  rintro _ rfl
  rw [redM_det (by omega)]
  exact Ep.now rfl
theorem lapRow_take {n : Nat} (es : List E) (a : Int) {v : Nat} (hv : v < n) : (lapRow n es a).take (v + 1) = (lapRow n es a).take v ++ [lapM es a (v : Int)] := by
  rw [List.take_succ_eq_append_getElem (by unfold lapRow; rw [repL_len]; exact hv)]
  unfold lapRow repL
  simp
theorem lapRow_len (n : Nat) (es : List E) (a : Int) : (lapRow n es a).length = n := by unfold lapRow; rw [repL_len]
theorem specLap_l1 {n : Nat} {es : List E} (hes : ∀ e ∈ es, EOk n e) (hel : es.length ≤ 12) (hn : n ≤ 6) {M : List (List Int)} (hM : M.length ≤ 6) {v : Nat} (hv : v < n) {Q : List (List Int) → Prop}
    (hQ : Ep (fun k => spec_LaplacianOf.l0 k (M ++ [lapRow n es (v : Int)]) ((v + 1 : Nat) : Int) (n : Int) es) Q) : ∀ (d i : Nat), i + d = n →
    Ep (fun k => spec_LaplacianOf.l1 k M (v : Int) ((lapRow n es (v : Int)).take i) (i : Int) (n : Int) es) Q := by
  intro d
  induction d with
  | zero =>
    intro i hi
    refine Ep.up ?_
    simp only [spec_LaplacianOf.l1]
    refine Ep.neg (by omega) (Ep.pos (by omega) ?_)
    rw [wrap_succ (by omega), List.take_of_length_le (by rw [lapRow_len]; omega)]
    exact hQ
  | succ d ih =>
    intro i hi
    have h := ih (i + 1) (by omega)
    rw [lapRow_take es _ (by omega)] at h
    have hl : ((lapRow n es (v : Int)).take i).length ≤ 6 := by rw [List.length_take, lapRow_len]; omega
    refine Ep.up ?_
    simp only [spec_LaplacianOf.l1]
    refine Ep.pos (by omega) ?_
    rw [wrap_succ (by omega)]
    by_cases c : v = i
    · refine Ep.pos (by omega) (Ep.bind (specValence _ es _ (by omega)) ?_)
      rintro _ rfl
      refine Ep.pos (by omega) ?_
      rw [valG_in ⟨by omega, by omega⟩]
      have e : lapM es (v : Int) (i : Int) = val es (v : Int) := by
        unfold lapM
        rw [if_pos (by omega)]
      rw [e] at h
      exact h
    · refine Ep.neg (by omega) (Ep.bind (specMult _ es hes hel _ _ ⟨by omega, by omega⟩ ⟨by omega, by omega⟩) ?_)
      rintro _ rfl
      have hm0 := mult_nonneg es (v : Int) (i : Int)
      have hm1 := mult_le es (v : Int) (i : Int)
      refine Ep.pos (by omega) ?_
      have e : lapM es (v : Int) (i : Int) = - mult es (v : Int) (i : Int) := by
        unfold lapM
        rw [if_neg (by omega)]
      rw [e] at h
      rw [wrap_id (by omega) (by omega)]
      exact h
theorem specLap_l0 {n : Nat} {es : List E} (hes : ∀ e ∈ es, EOk n e) (hel : es.length ≤ 12) (hn : n ≤ 6) : ∀ (d v : Nat), v + d = n → Ep (fun k => spec_LaplacianOf.l0 k ((lapL n es).take v) (v : Int) (n : Int) es) (· = lapL n es) := by
  intro d
  induction d with
  | zero =>
    intro v hv
    refine Ep.up ?_
    simp only [spec_LaplacianOf.l0]
    refine Ep.neg (by omega) (Ep.now ?_)
    rw [List.take_of_length_le (by rw [lapL_len]; omega)]
  | succ d ih =>
    intro v hv
    have h1 := ih (v + 1) (by omega)
    rw [lapL_take es (by omega)] at h1
    refine Ep.up ?_
    simp only [spec_LaplacianOf.l0]
    refine Ep.pos (by omega) ?_
    exact specLap_l1 hes hel hn (by rw [List.length_take]; omega) (by omega) h1 n 0 (by omega)
theorem specLap {n : Nat} {es : List E} (hg : GOk (n : Int) es) : Ep (fun k => spec_LaplacianOf.f k (n : Int) es) (· = lapL n es) := by
  have hG := hg.1
  unfold EsOk at hG
  simp only [spec_LaplacianOf.f]
  refine Ep.bind (specGraph _ _) ?_
  rintro _ rfl
  refine Ep.pos (gOk_iff.2 hg) ?_
  have := specLap_l0 (n := n) hG.2.2.2 hG.2.2.1 (by omega) n 0 (by omega)
  simpa using this
theorem specRL {n : Nat} {es : List E} (hg : GOk (n : Int) es) {q : Nat} (hq : q < n) : Ep (fun k => spec_ReducedLaplacian.f k (n : Int) es (q : Int)) (· = redM n es q) := by
  have hG := hg.1
  unfold EsOk at hG
  simp only [spec_ReducedLaplacian.f]
  refine Ep.bind (specGraph _ _) ?_
  rintro _ rfl
  refine Ep.pos (gOk_iff.2 hg) ?_
  rw [wrap_id (x := (n : Int) - 1) (by omega) (by omega)]
  refine Ep.bind0 (l01In_eq _ _ _) ?_
  refine Ep.pos (by simp; omega) ?_
  refine Ep.bind (specLap hg) ?_
  rintro _ rfl
  have hr : ∀ r ∈ lapL n es, r.length = n := fun r hr => by
    unfold lapL at hr
    obtain ⟨i, _, rfl⟩ := List.mem_map.1 hr
    exact lapRow_len n es _
  refine Ep.pos (fun r h => by rw [hr r h]; omega) ?_
  have e : redF (q : Int) (lapL n es) = some (redM n es q) := by
    unfold redF
    rw [if_pos, Int.toNat_natCast, keep_red]
    exact ⟨by omega, by omega, by rw [lapL_len]; omega, fun r h => by rw [hr r h]; omega⟩
  exact Ep.congr (fun _ => e) (Ep.now rfl)
theorem row_at {m : Nat} {M : List (List Int)} (hM : SqOk m M) {i : Nat} (hi : i < m) : rd_L3 M (i : Int) ∈ M := by
  unfold rd_L3
  rw [Int.toNat_natCast, List.getD_eq_getElem?_getD, List.getElem?_eq_getElem (by have := hM.1; omega)]
  exact List.getElem_mem _
theorem specMat_l1 {m : Nat} (hm : m ≤ 5) {M : List (List Int)} (hM : SqOk m M) {i : Nat} (hi : i < m) {r : List Int} (hr : r ∈ M) (hn : Ep (fun k => spec_MatrixOk.l0 k M M (m : Int) ((i + 1 : Nat) : Int)) (· = true)) :
    ∀ (d j : Nat), j + d = m → Ep (fun k => spec_MatrixOk.l1 k M M (m : Int) (i : Int) r (m : Int) (j : Int)) (· = true) := by
  have hl := hM.2.1 r hr
  intro d
  induction d with
  | zero =>
    intro j hj
    refine Ep.up ?_
    simp only [spec_MatrixOk.l1]
    refine Ep.neg (by omega) ?_
    rw [wrap_succ (by omega)]
    exact hn
  | succ d ih =>
    intro j hj
    have hb := rd_bd (hM.2.2 r hr) (j : Int)
    refine Ep.up ?_
    simp only [spec_MatrixOk.l1]
    refine Ep.pos (by omega) (Ep.pos (by omega) (Ep.pos (by omega) (Ep.bind0 (l01In_eq _ _ _) (Ep.pos (by simp; omega) ?_))))
    rw [wrap_succ (by omega)]
    exact ih (j + 1) (by omega)
theorem specMat_l0 {m : Nat} (hm : m ≤ 5) {M : List (List Int)} (hM : SqOk m M) : ∀ (d i : Nat), i + d = m → Ep (fun k => spec_MatrixOk.l0 k M M (m : Int) (i : Int)) (· = true) := by
  have hM1 := hM.1
  intro d
  induction d with
  | zero =>
    intro i hi
    refine Ep.up ?_
    simp only [spec_MatrixOk.l0]
    exact Ep.neg (by omega) (Ep.now rfl)
  | succ d ih =>
    intro i hi
    have hr := row_at hM (i := i) (by omega)
    have hl := hM.2.1 _ hr
    refine Ep.up ?_
    simp only [spec_MatrixOk.l0]
    refine Ep.pos (by omega) (Ep.pos (by omega) (Ep.pos (by omega) (Ep.pos (by omega) ?_)))
    rw [hl]
    exact specMat_l1 hm hM (by omega) hr (ih (i + 1) (by omega)) m 0 (by omega)
theorem specMatrixOk {m : Nat} (hm : m ≤ 5) {M : List (List Int)} (hM : SqOk m M) : Ep (fun k => spec_MatrixOk.f k M) (· = true) := by
  have hM1 := hM.1
  simp only [spec_MatrixOk.f]
  refine Ep.neg (by omega) ?_
  rw [hM1]
  exact specMat_l0 hm hM m 0 (by omega)
theorem specDet_l0 {m : Nat} (hm : m ≤ 5) {M : List (List Int)} (hM : SqOk m M) {r : Int} {rs : List Int} (hr : 0 ≤ r ∧ r < m) (hrs : rs.length ≤ 4) {cs : List Int} (hcs : cs.length ≤ 6) (hc : ∀ c ∈ cs, 0 ≤ c ∧ c < (m : Int))
    (ih : ∀ cs' : List Int, cs'.length ≤ 6 → (∀ c ∈ cs', 0 ≤ c ∧ c < (m : Int)) → Ep (fun k => spec_l03Det.f k M rs cs') (· = detL M rs cs')) :
    ∀ (d p : Nat) (s σ : Int), p + d = cs.length → (σ = 1 ∨ σ = -1) → (-(p * 23219011584 : Int) ≤ s ∧ s ≤ p * 23219011584) →
      Ep (fun k => spec_l03Det.l0 k M (r :: rs) cs s σ cs (cs.length : Int) (p : Int))
        (· = s + σ * alt (cs.length - p) fun i => ent M r (cs.getD (p + i) 0) * detL M rs (cs.eraseIdx (p + i))) := by
  have hM1 := hM.1
  have hrow : (rd_L3 M r).length = m := by
    unfold rd_L3
    rw [List.getD_eq_getElem?_getD, List.getElem?_eq_getElem (by have := hM.1; omega)]
    exact hM.2.1 _ (List.getElem_mem _)
  intro d
  induction d with
  | zero =>
    intro p s σ hp hσ hs
    refine Ep.up ?_
    simp only [spec_l03Det.l0]
    refine Ep.neg (by omega) (Ep.now ?_)
    rw [show cs.length - p = 0 by omega]
    simp [alt]
  | succ d ihd =>
    intro p s σ hp hσ hs
    have hlt : p < cs.length := by omega
    have e0 : rd (r :: rs) 0 = r := rfl
    have ec : rd cs (p : Int) = cs[p] := by
      rw [rd_nat, List.getD_eq_getElem?_getD, List.getElem?_eq_getElem hlt]
      rfl
    have hcp := hc _ (List.getElem_mem hlt)
    have eg : cs.getD p 0 = cs[p] := by
      rw [List.getD_eq_getElem?_getD, List.getElem?_eq_getElem hlt]
      rfl
    have hent : rd (rd_L3 M r) (cs[p]) = ent M r (cs.getD p 0) := by rw [eg]; rfl
    have hbd := hM.ent r (cs.getD p 0)
    have hle : (cs.eraseIdx p).length ≤ 6 := by rw [List.length_eraseIdx]; split <;> omega
    have hdb := det_bd hM (rs := rs) (cs := cs.eraseIdx p) (by omega) hle
    have hsplit : cs.length - p = (cs.length - (p + 1)) + 1 := by omega
    have hneg : wrap64 (-σ) = -σ := wrap_id (by omega) (by omega)
    refine Ep.up ?_
    simp only [spec_l03Det.l0]
    rw [e0, ec, hent, hneg, wrap_succ (by omega)]
    refine Ep.pos (by omega) (Ep.pos (by omega) (Ep.pos (by omega) (Ep.pos (by rw [List.length_cons]; omega) (Ep.pos (by omega) (Ep.pos (by omega) (Ep.pos (by omega) (Ep.pos (by omega) ?_)))))))
    rw [hsplit, alt_shift _ (fun i => ent M r (cs.getD i 0) * detL M rs (cs.eraseIdx i))]
    by_cases hz : ent M r (cs.getD p 0) = 0
    · refine Ep.pos hz ?_
      refine (ihd (p + 1) s (-σ) (by omega) (by omega) (by omega)).mono fun v hv => ?_
      rw [hv, hz, Int.zero_mul, Int.zero_sub, Int.mul_neg, Int.neg_mul]
    · refine Ep.neg hz (Ep.bind0 rfl (Ep.pos (by omega) (Ep.pos (by simp only [List.length_nil, List.length_take]; omega) (Ep.bind0 rfl (Ep.pos (by omega) (Ep.pos (by omega) (Ep.pos (by simp only [List.nil_append, List.length_take, List.length_drop]; omega) (Ep.pos (by rw [List.length_cons]; omega) ?_))))))))
      rw [List.nil_append, Int.toNat_natCast, Int.toNat_natCast, ← List.eraseIdx_eq_take_drop_succ, show (r :: rs).drop 1 = rs from rfl]
      refine Ep.bind (ih _ hle fun c h => hc c (List.mem_of_mem_eraseIdx h)) ?_
      rintro _ rfl
      have hprod := mul_bd hbd hdb
      have e5 : wrap64 (σ * ent M r (cs.getD p 0)) = σ * ent M r (cs.getD p 0) := by
        rcases hσ with rfl | rfl
        · exact wrap_id (by omega) (by omega)
        · exact wrap_id (by omega) (by omega)
      have e6 : σ * ent M r (cs.getD p 0) * detL M rs (cs.eraseIdx p) = σ * (ent M r (cs.getD p 0) * detL M rs (cs.eraseIdx p)) := Int.mul_assoc _ _ _
      have hb2 : -(23219011584 : Int) ≤ σ * (ent M r (cs.getD p 0) * detL M rs (cs.eraseIdx p)) ∧ σ * (ent M r (cs.getD p 0) * detL M rs (cs.eraseIdx p)) ≤ 23219011584 := by
        rcases hσ with rfl | rfl <;> omega
      rw [e5, e6]
      have e7 : wrap64 (σ * (ent M r (cs.getD p 0) * detL M rs (cs.eraseIdx p))) = σ * (ent M r (cs.getD p 0) * detL M rs (cs.eraseIdx p)) := wrap_id (by omega) (by omega)
      have e8 : wrap64 (s + σ * (ent M r (cs.getD p 0) * detL M rs (cs.eraseIdx p))) = s + σ * (ent M r (cs.getD p 0) * detL M rs (cs.eraseIdx p)) := wrap_id (by omega) (by omega)
      rw [e7, e8]
      refine (ihd (p + 1) _ (-σ) (by omega) (by omega) (by omega)).mono fun v hv => ?_
      rw [hv, Int.mul_sub, Int.neg_mul]
      omega
theorem specDet {m : Nat} (hm : m ≤ 5) {M : List (List Int)} (hM : SqOk m M) : ∀ (rs : List Int), rs.length ≤ 5 → (∀ r ∈ rs, 0 ≤ r ∧ r < (m : Int)) → ∀ cs : List Int, cs.length ≤ 6 → (∀ c ∈ cs, 0 ≤ c ∧ c < (m : Int)) → Ep (fun k => spec_l03Det.f k M rs cs) (· = detL M rs cs)
  | [], _, _, cs, _, _ => by
    refine Ep.up ?_
    simp only [spec_l03Det.f]
    exact Ep.pos rfl (Ep.now rfl)
  | r :: rs, hl, hr, cs, hcl, hc => by
    have hr0 := hr r List.mem_cons_self
    have ih := specDet hm hM rs (by simp at hl; omega) (fun x hx => hr x (List.mem_cons_of_mem _ hx))
    refine Ep.up ?_
    simp only [spec_l03Det.f]
    refine Ep.neg (by rw [List.length_cons]; omega) ?_
    refine (specDet_l0 hm hM hr0 (by simp at hl; omega) hcl hc ih cs.length 0 0 1 (by omega) (Or.inl rfl) (by omega)).mono fun v hv => ?_
    rw [hv]
    simp only [Nat.sub_zero, Nat.zero_add, Int.zero_add, Int.one_mul]
    rfl
/-- The edges with these indices. -/
def edgesAt (es : List E) (l : List Int) : List E := l.map (fun k => es.getD k.toNat ⟨0, 0⟩)
def InR (es : List E) (l : List Int) (i : Nat) : Prop := ∀ j, (h : j < l.length) → j < i → 0 ≤ l[j] ∧ l[j] < es.length
def Up (l : List Int) (i : Nat) : Prop := ∀ j, (h : j + 1 < l.length) → j + 1 < i → l[j] < l[j + 1]
theorem edgesAt_take {es : List E} {l : List Int} {i : Nat} (hi : i < l.length) {m : Nat} (hm : l[i] = m) (hl : m < es.length) : edgesAt es (l.take (i + 1)) = edgesAt es (l.take i) ++ [es[m]] := by
  unfold edgesAt
  rw [List.take_add_one, List.getElem?_eq_getElem hi, List.map_append]
  congr 1
  simp [hm, List.getD, hl]
theorem edgesAt_ok {n : Int} {es : List E} {l : List Int} (hes : ∀ e ∈ es, EOk n e) (hr : InR es l l.length) : ∀ e ∈ edgesAt es l, EOk n e := by
  intro e he
  obtain ⟨x, hx, rfl⟩ := List.mem_map.1 he
  obtain ⟨j, hj, rfl⟩ := List.mem_iff_getElem.1 hx
  have := hr j hj hj
  obtain ⟨m, hm⟩ := Int.eq_ofNat_of_zero_le this.1
  rw [hm]
  have hml : m < es.length := by omega
  simp only [Int.ofNat_eq_natCast, Int.toNat_natCast, List.getD, List.getElem?_eq_getElem hml, Option.getD_some]
  exact hes _ (List.getElem_mem hml)
theorem edgesOf_l0 (n : Int) (es : List E) (l : List Int) (hl : l.length ≤ 1048576) (hr : InR es l l.length) : ∀ (d i : Nat), i + d = l.length → Ep (fun k => impl_edgesOf.l0 k (edgesAt es (l.take i)) l (l.length : Int) (i : Int) n es) (· = edgesAt es l) := by
  intro d
  induction d with
  | zero =>
    intro i hi
    refine Ep.up ?_
    simp only [impl_edgesOf.l0]
    refine Ep.neg (by omega) (Ep.now ?_)
    rw [List.take_of_length_le (by omega)]
  | succ d ih =>
    intro i hi
    have hlt : i < l.length := by omega
    have hx := hr i hlt hlt
    obtain ⟨m, hm⟩ := Int.eq_ofNat_of_zero_le hx.1
    have hml : m < es.length := by omega
    refine Ep.up ?_
    simp only [impl_edgesOf.l0]
    rw [rd_get hlt, hm]
    refine Ep.pos (by omega) (Ep.pos (by omega) (Ep.pos (by omega) (Ep.pos (by omega) (Ep.pos (by omega) (Ep.pos ?_ ?_)))))
    · simp [edgesAt]; omega
    · have := ih (i + 1) (by omega)
      rw [edgesAt_take hlt hm hml] at this
      rw [wrap_id (by omega) (by omega)]
      have e : rd_T67 es ((m : Nat) : Int) = es[m] := rdE_get hml
      rw [e]
      exact this
theorem edgesOf_ok (n : Int) (es : List E) (l : List Int) (hl : l.length ≤ 1048576) (hr : InR es l l.length) : Ep (fun k => impl_edgesOf.f k n es l) (· = edgesAt es l) := by
  simp only [impl_edgesOf.f]
  exact edgesOf_l0 n es l hl hr l.length 0 (by omega)
theorem specJoins_l0 (n : Nat) (hn : 1 ≤ n ∧ n ≤ 6) (es : List E) (l : List Int) (hl : l.length ≤ 12) (hes : ∀ e ∈ es, EOk n e) (hr : InR es l l.length) : ∀ (d i : Nat), i + d = l.length → Ep (fun k => spec_l12Joins.l0 k l (l.length : Int) (i : Int) (n : Int) es (n : Int) (edgesAt es (l.take i))) (· = joinedB n (edgesAt es l)) := by
  intro d
  induction d with
  | zero =>
    intro i hi
    refine Ep.up ?_
    simp only [spec_l12Joins.l0]
    refine Ep.neg (by omega) ?_
    rw [List.take_of_length_le (by omega)]
    refine Ep.bind (specReach n hn (edgesAt es l) (by simp [edgesAt]; omega) (edgesAt_ok hes hr)) ?_
    intro r hr
    refine Ep.now ?_
    rw [Bool.eq_iff_iff, joinedB_iff, ← hr.1]
    simp only [beq_iff_eq]
    omega
  | succ d ih =>
    intro i hi
    have hlt : i < l.length := by omega
    have hx := hr i hlt hlt
    obtain ⟨m, hm⟩ := Int.eq_ofNat_of_zero_le hx.1
    have hml : m < es.length := by omega
    refine Ep.up ?_
    simp only [spec_l12Joins.l0]
    rw [rd_get hlt, hm]
    refine Ep.pos (by omega) (Ep.pos (by omega) (Ep.pos (by omega) (Ep.pos (by omega) (Ep.pos (by omega) (Ep.pos ?_ ?_)))))
    · simp [edgesAt]; omega
    · have := ih (i + 1) (by omega)
      rw [edgesAt_take hlt hm hml] at this
      rw [wrap_id (by omega) (by omega)]
      have e : rd_T67 es ((m : Nat) : Int) = es[m] := rdE_get hml
      rw [e]
      exact this
theorem specJoins (n : Nat) (hn : 1 ≤ n ∧ n ≤ 6) (es : List E) (l : List Int) (hl : l.length ≤ 12) (hes : ∀ e ∈ es, EOk n e) (hr : InR es l l.length) : Ep (fun k => spec_l12Joins.f k (n : Int) es l) (· = joinedB n (edgesAt es l)) := by
  simp only [spec_l12Joins.f]
  exact specJoins_l0 n hn es l hl hes hr l.length 0 (by omega)
/-- A spanning tree, by its edges' indices. -/
def TreeOk (n : Int) (es : List E) (l : List Int) : Prop := GOk n es ∧ (l.length : Int) = n - 1 ∧ InR es l l.length ∧ Up l l.length ∧ Joined n (edgesAt es l)
open Classical in
noncomputable def treeB (n : Int) (es : List E) (l : List Int) : Bool := decide (TreeOk n es l)
theorem treeB_iff {n : Int} {es : List E} {l : List Int} : treeB n es l = true ↔ TreeOk n es l := by unfold treeB; simp
theorem treeB_false {n : Int} {es : List E} {l : List Int} (h : ¬ TreeOk n es l) : false = treeB n es l := by
  cases hb : treeB n es l with
  | false => rfl
  | true => exact absurd (treeB_iff.1 hb) h
theorem treeB_joined {n : Int} {es : List E} {l : List Int} (hg : GOk n es) (hl : (l.length : Int) = n - 1) (hr : InR es l l.length) (hu : Up l l.length) : joinedB n (edgesAt es l) = treeB n es l := by
  rw [Bool.eq_iff_iff, joinedB_iff, treeB_iff]
  exact ⟨fun h => ⟨hg, hl, hr, hu, h⟩, fun h => h.2.2.2.2⟩
theorem Up.next {l : List Int} {i : Nat} (h : Up l (i + 1)) (hi : i + 1 < l.length) (hx : l[i] < l[i + 1]) : Up l (i + 2) := by
  intro j hj hji
  by_cases e : j = i
  · subst e; exact hx
  · exact h j hj (by omega)
theorem implTree_l0 (n : Nat) (es : List E) (l : List Int) (hg : GOk n es) (hn : (l.length : Int) = (n : Int) - 1) (hr : InR es l l.length) : ∀ (d i : Nat), l.length ≤ i + 1 + d → i ≤ l.length → Up l (i + 1) → Ep (fun k => impl_IsTree.l0 k l ((i + 1 : Nat) : Int) (n : Int) es) (· = treeB n es l) := by
  have hg1 := hg.1
  unfold EsOk at hg1
  intro d
  induction d with
  | zero =>
    intro i hi hi2 hu
    refine Ep.up ?_
    simp only [impl_IsTree.l0]
    refine Ep.neg (by omega) ?_
    refine Ep.bind (edgesOf_ok (n : Int) es l (by omega) hr) ?_
    rintro _ rfl
    refine Ep.bind (implConn n (by omega) (edgesAt es l) (by simp [edgesAt]; omega) (edgesAt_ok hg1.2.2.2 hr)) ?_
    rintro _ rfl
    exact Ep.now (treeB_joined hg hn hr (fun j hj hji => hu j hj (by omega)))
  | succ d ih =>
    intro i hi hi2 hu
    by_cases hlt : i + 1 < l.length
    · refine Ep.up ?_
      simp only [impl_IsTree.l0]
      rw [wrap_id (x := ((i + 1 : Nat) : Int) - 1) (by omega) (by omega), show ((i + 1 : Nat) : Int) - 1 = (i : Int) by omega, rd_get (show i < l.length by omega), rd_get hlt]
      refine Ep.pos (by omega) (Ep.pos (by omega) (Ep.pos (by omega) (Ep.pos (by omega) (Ep.ite (fun h1 => Ep.now (treeB_false (fun x => ?_))) (fun h1 => ?_)))))
      · have := x.2.2.2.1 i hlt hlt
        omega
      · rw [wrap_id (by omega) (by omega), show ((i + 1 : Nat) : Int) + 1 = ((i + 1 + 1 : Nat) : Int) by omega]
        exact ih (i + 1) (by omega) (by omega) (hu.next hlt (by omega))
    · refine Ep.up ?_
      simp only [impl_IsTree.l0]
      refine Ep.neg (by omega) ?_
      refine Ep.bind (edgesOf_ok (n : Int) es l (by omega) hr) ?_
      rintro _ rfl
      refine Ep.bind (implConn n (by omega) (edgesAt es l) (by simp [edgesAt]; omega) (edgesAt_ok hg1.2.2.2 hr)) ?_
      rintro _ rfl
      exact Ep.now (treeB_joined hg hn hr (fun j hj hji => hu j hj (by omega)))
theorem implTree (n : Int) (es : List E) (l : List Int) (hl : l.length ≤ 1048576) : Ep (fun k => impl_IsTree.f k n es l) (· = treeB n es l) := by
  have no : ¬ TreeOk n es l → Ep (fun k => impl_IsTree.j0 k l true n es) (· = treeB n es l) := by
    intro h
    refine Ep.up ?_
    simp only [impl_IsTree.j0]
    exact Ep.pos trivial (Ep.now (treeB_false h))
  simp only [impl_IsTree.f]
  refine Ep.bind0 (implGraph n es) ?_
  refine Ep.ite (fun hg => ?_) (fun hg => no (fun x => gOk_false hg x.1))
  have hG := gOk_true hg
  have hG1 := hG.1
  unfold EsOk at hG1
  rw [wrap_id (x := n - 1) (by omega) (by omega), wrap_id (x := (es.length : Int) - 1) (by omega) (by omega)]
  obtain ⟨m, rfl⟩ := Int.eq_ofNat_of_zero_le (a := n) (by omega)
  refine Ep.ite (fun hn => ?_) (fun hn => no (fun x => hn x.2.1))
  refine Ep.bind (allWithin_ok l _ _ hl) ?_
  rintro _ rfl
  by_cases ha : ∀ x ∈ l, 0 ≤ x ∧ x ≤ (es.length : Int) - 1
  · have hr : InR es l l.length := fun j hj _ => by
      have := ha l[j] (List.getElem_mem hj)
      omega
    refine Ep.up ?_
    simp only [impl_IsTree.j0]
    refine Ep.neg (by simpa using ha) ?_
    exact implTree_l0 m es l hG hn hr l.length 0 (by omega) (by omega) (fun j hj hji => by omega)
  · have e : (!decide (∀ x ∈ l, 0 ≤ x ∧ x ≤ (es.length : Int) - 1)) = true := by simpa using ha
    rw [e]
    exact no (fun x => ha (fun y hy => by
      obtain ⟨j, hj, rfl⟩ := List.mem_iff_getElem.1 hy
      have := x.2.2.1 j hj hj
      omega))
end Go.Proofs.Ytdfibdjjoplmmaa.Cf
end

section
namespace Go.Proofs.Ytdfibdjjoplmmaa.Cf
set_option linter.unusedVariables false
set_option linter.unusedSimpArgs false
open Go.RowKit Go.Proofs.YtdfibdjjoplmmaaW.PrintWords Go.Proofs.Ytdfibdjjoplmmaa.P
theorem nodup_le {α : Type} [BEq α] [LawfulBEq α] : ∀ {l m : List α}, l.Nodup → (∀ x ∈ l, x ∈ m) → l.length ≤ m.length
  | [], _, _, _ => Nat.zero_le _
  | a :: l, m, h, hs => by
    have ha := hs a List.mem_cons_self
    rw [List.nodup_cons] at h
    have := nodup_le (m := m.erase a) h.2 (fun x hx => (List.mem_erase_of_ne (show x ≠ a by intro e; subst e; exact h.1 hx)).2 (hs x (List.mem_cons_of_mem _ hx)))
    rw [List.length_erase_of_mem ha] at this
    have := List.length_pos_of_mem ha
    rw [List.length_cons]
    omega
def upG (m : Nat) : List Int := (List.range m).map fun j : Nat => (j : Int)
theorem upG_mem {m : Nat} {x : Int} : x ∈ upG m ↔ 0 ≤ x ∧ x < m := by
  unfold upG
  rw [List.mem_map]
  constructor
  · rintro ⟨j, hj, rfl⟩
    rw [List.mem_range] at hj
    omega
  · rintro ⟨h0, h1⟩
    exact ⟨x.toNat, by rw [List.mem_range]; omega, by omega⟩
theorem upG_len (m : Nat) : (upG m).length = m := by simp [upG]
theorem upG_nodup (m : Nat) : (upG m).Nodup := by
  unfold upG
  rw [List.Nodup, List.pairwise_map]
  exact List.nodup_range.imp (fun h e => h (by omega))
/-- Some vertex lies outside a short list. -/
theorem out_ex {n : Nat} {S : List Int} (h : S.length < n) : ∃ v : Int, (0 ≤ v ∧ v < n) ∧ v ∉ S := by
  apply Classical.byContradiction
  intro hc
  have := nodup_le (upG_nodup n) (m := S) (fun x hx => Classical.byContradiction fun hx2 => hc ⟨x, upG_mem.1 hx, hx2⟩)
  rw [upG_len] at this
  omega
theorem all_in {n : Nat} {S : List Int} (hn : S.Nodup) (hr : ∀ v ∈ S, 0 ≤ v ∧ v < (n : Int)) (h : S.length = n) {v : Int} (h0 : 0 ≤ v) (h1 : v < n) : v ∈ S := by
  apply Classical.byContradiction
  intro hv
  have := nodup_le (l := v :: S) (m := upG n) (List.nodup_cons.2 ⟨hv, hn⟩) (fun x hx => by
    rw [upG_mem]
    rcases List.mem_cons.1 hx with rfl | hx
    · exact ⟨h0, h1⟩
    · exact hr x hx)
  rw [upG_len, List.length_cons] at this
  omega
theorem edgesAt_sub {es : List E} {l m : List Int} (h : ∀ a ∈ l, a ∈ m) : ∀ e ∈ edgesAt es l, e ∈ edgesAt es m := by
  intro e he
  unfold edgesAt at he ⊢
  obtain ⟨k, hk, rfl⟩ := List.mem_map.1 he
  exact List.mem_map.2 ⟨k, h k hk, rfl⟩
theorem grow {n : Nat} {es : List E} {A : List Int} (hes : ∀ e ∈ edgesAt es A, EOk n e) (hj : Joined n (edgesAt es A)) : ∀ k : Nat, 1 ≤ k → k ≤ n →
    ∃ S l : List Int, S.length = k ∧ S.Nodup ∧ (∀ v ∈ S, 0 ≤ v ∧ v < (n : Int)) ∧ (0 : Int) ∈ S ∧ l.length + 1 = k ∧ l.Nodup ∧ (∀ a ∈ l, a ∈ A) ∧ (∀ v ∈ S, Conn (edgesAt es l) 0 v) ∧ ∀ a ∈ l, (es.getD a.toNat ⟨0, 0⟩).f0 ∈ S ∧ (es.getD a.toNat ⟨0, 0⟩).f1 ∈ S := by
  intro k
  induction k with
  | zero => intro h; omega
  | succ k ih =>
    intro _ hk
    by_cases h0 : k = 0
    · subst h0
      refine ⟨[0], [], rfl, List.nodup_cons.2 ⟨List.not_mem_nil, List.nodup_nil⟩, ?_, List.mem_singleton.2 rfl, rfl, List.nodup_nil, fun a ha => absurd ha List.not_mem_nil, ?_, fun a ha => absurd ha List.not_mem_nil⟩
      · intro v hv
        rw [List.mem_singleton.1 hv]
        omega
      · intro v hv
        rw [List.mem_singleton.1 hv]
        exact Conn.refl
    · obtain ⟨S, l, h1, h2, h3, h4, h5, h6, h7, h8, h9⟩ := ih (by omega) (by omega)
      obtain ⟨v, hv, hvS⟩ := out_ex (n := n) (S := S) (by omega)
      have hx : ∃ a b, a ∈ S ∧ Adj (edgesAt es A) a b ∧ b ∉ S := by
        apply Classical.byContradiction
        intro hc
        exact hvS ((hj v hv.1 hv.2).closed (S := fun x => x ∈ S) (fun a b ha hab => Classical.byContradiction fun hb => hc ⟨a, b, ha, hab, hb⟩) h4)
      obtain ⟨a, b, ha, hab, hb⟩ := hx
      obtain ⟨e, he, hend⟩ := hab
      have hok := hes e he
      unfold EOk at hok
      unfold edgesAt at he
      obtain ⟨j, hj2, rfl⟩ := List.mem_map.1 he
      have hjl : j ∉ l := by
        intro hjl
        have := h9 j hjl
        rcases hend with ⟨p, q⟩ | ⟨p, q⟩
        · exact hb (q ▸ this.2)
        · exact hb (p ▸ this.1)
      have hsub : ∀ x ∈ l, x ∈ j :: l := fun x hx => List.mem_cons_of_mem _ hx
      refine ⟨b :: S, j :: l, by rw [List.length_cons]; omega, List.nodup_cons.2 ⟨hb, h2⟩, ?_, List.mem_cons_of_mem _ h4, by rw [List.length_cons]; omega, List.nodup_cons.2 ⟨hjl, h6⟩, ?_, ?_, ?_⟩
      · intro x hx
        rcases List.mem_cons.1 hx with rfl | hx
        · rcases hend with ⟨p, q⟩ | ⟨p, q⟩
          · rw [← q]; omega
          · rw [← p]; omega
        · exact h3 x hx
      · intro x hx
        rcases List.mem_cons.1 hx with rfl | hx
        · exact hj2
        · exact h7 x hx
      · intro x hx
        rcases List.mem_cons.1 hx with rfl | hx
        · refine ((h8 a ha).sub (edgesAt_sub hsub)).trans (Conn.one ⟨es.getD j.toNat ⟨0, 0⟩, ?_, hend⟩)
          exact List.mem_map.2 ⟨j, List.mem_cons_self, rfl⟩
        · exact (h8 x hx).sub (edgesAt_sub hsub)
      · intro x hx
        rcases List.mem_cons.1 hx with rfl | hx
        · rcases hend with ⟨p, q⟩ | ⟨p, q⟩
          · rw [p, q]
            exact ⟨List.mem_cons_of_mem _ ha, List.mem_cons_self⟩
          · rw [p, q]
            exact ⟨List.mem_cons_self, List.mem_cons_of_mem _ ha⟩
        · exact ⟨List.mem_cons_of_mem _ (h9 x hx).1, List.mem_cons_of_mem _ (h9 x hx).2⟩
theorem up_of {l : List Int} (h : l.Pairwise (· < ·)) : Up l l.length := fun j h1 _ => List.pairwise_iff_getElem.1 h j (j + 1) (by omega) h1 (by omega)
/-- A spanning tree among the edges A. -/
theorem tree_ex {n : Nat} (hn : 1 ≤ n) {es : List E} {A : List Int} (hA : ∀ a ∈ A, 0 ≤ a ∧ a < (es.length : Int)) (hg : GOk n es) (hj : Joined n (edgesAt es A)) : ∃ l : List Int, TreeOk n es l ∧ (∀ a ∈ l, a ∈ A) ∧ l.Pairwise (· < ·) := by
  have hes : ∀ e ∈ edgesAt es A, EOk n e := by
    intro e he
    unfold edgesAt at he
    obtain ⟨k, hk, rfl⟩ := List.mem_map.1 he
    have := hA k hk
    rw [List.getD_eq_getElem?_getD, List.getElem?_eq_getElem (by omega)]
    exact hg.1.2.2.2 _ (List.getElem_mem _)
  obtain ⟨S, l, h1, h2, h3, h4, h5, h6, h7, h8, h9⟩ := grow hes hj n hn (Nat.le_refl _)
  have hp : (l.mergeSort (fun a b => decide (a ≤ b))).Perm l := List.mergeSort_perm l _
  have hs : (l.mergeSort (fun a b => decide (a ≤ b))).Pairwise (· ≤ ·) := by
    have h := List.pairwise_mergeSort (le := fun a b : Int => decide (a ≤ b)) (fun a b c h1 h2 => by simp at *; omega) (fun a b => by simp; omega) l
    exact h.imp (fun h => by simpa using h)
  generalize l.mergeSort (fun a b => decide (a ≤ b)) = m at hp hs
  have hm : ∀ a ∈ m, a ∈ A := fun a ha => h7 a (hp.mem_iff.1 ha)
  have hlt : m.Pairwise (· < ·) := (hs.and (hp.nodup_iff.2 h6)).imp (fun h => by have := h.1; have := h.2; omega)
  refine ⟨m, ⟨hg, by rw [hp.length_eq]; omega, fun j hj2 _ => hA _ (hm _ (List.getElem_mem hj2)), up_of hlt, ?_⟩, hm, hlt⟩
  intro v h0 hv
  exact (h8 v (all_in h2 h3 h1 h0 hv)).sub (edgesAt_sub fun a ha => hp.mem_iff.2 ha)
def dropO (n : Int) (es : List E) (i : Int) : Int × List E × Bool := if (gOk n es = true ∧ 0 ≤ i ∧ i < es.length) ∧ gOk n (es.eraseIdx i.toNat) = true then (n, es.eraseIdx i.toNat, true) else (0, [], false)
def brB (n : Int) (es : List E) (i : Int) : Bool := decide (gOk n es = true ∧ 0 ≤ i ∧ i < es.length) && !gOk n (es.eraseIdx i.toNat)
theorem dropO_yes {n : Int} {es : List E} {i : Nat} (hg : gOk n es = true) (hi : i < es.length) (h : gOk n (es.eraseIdx i) = true) : dropO n es (i : Int) = (n, es.eraseIdx i, true) := by
  unfold dropO
  rw [Int.toNat_natCast, if_pos ⟨⟨hg, by omega, by omega⟩, h⟩]
theorem dropO_no {n : Int} {es : List E} {i : Nat} (h : ¬ gOk n (es.eraseIdx i) = true) : dropO n es (i : Int) = (0, [], false) := by
  unfold dropO
  rw [Int.toNat_natCast, if_neg fun x => h x.2]
theorem dropO_out {n : Int} {es : List E} {i : Int} (h : ¬ (gOk n es = true ∧ 0 ≤ i ∧ i < es.length)) : dropO n es i = (0, [], false) := if_neg fun x => h x.1
theorem implDropE (n : Int) (es : List E) (i : Int) : Ep (fun k => impl_DropEdge.f k n es i) (· = dropO n es i) := by
  have no : ¬ (gOk n es = true ∧ 0 ≤ i ∧ i < es.length) → Ep (fun k => impl_DropEdge.j0 k i true n es) (· = dropO n es i) := fun h => by
    refine Ep.up ?_
    simp only [impl_DropEdge.j0]
    exact Ep.pos trivial (Ep.now (dropO_out h).symm)
  simp only [impl_DropEdge.f]
  refine Ep.bind0 (implGraph n es) ?_
  refine Ep.ite (fun hg => ?_) (fun hg => no fun x => hg x.1)
  have hG := (gOk_iff.1 hg).1
  unfold EsOk at hG
  rw [wrap_id (x := (es.length : Int) - 1) (by omega) (by omega)]
  refine Ep.bind0 (within_eq _ _ _) ?_
  by_cases h : 0 ≤ i ∧ i < es.length
  · obtain ⟨x, rfl⟩ := Int.eq_ofNat_of_zero_le h.1
    have e : decide (0 ≤ (x : Int) ∧ (x : Int) ≤ (es.length : Int) - 1) = true := by rw [decide_eq_true_eq]; omega
    rw [e]
    refine Ep.up ?_
    simp only [impl_DropEdge.j0]
    refine Ep.neg (by simp) ?_
    have hc : impl_copyGraph.f n es = some (n, es) := by
      unfold impl_copyGraph.f
      rw [if_pos (by simp; omega), List.nil_append]
    refine Ep.bind0 hc (Ep.bind0 (a := es.eraseIdx x) ?_ ?_)
    · exact delF_eq (l := es) (by omega) (wrap_id (by omega) (by omega))
    · refine Ep.bind0 (implGraph n _) ?_
      exact Ep.ite (fun h2 => Ep.now (dropO_yes hg (by omega) h2).symm) (fun h2 => Ep.now (dropO_no h2).symm)
  · have e : decide (0 ≤ i ∧ i ≤ (es.length : Int) - 1) = false := by rw [decide_eq_false_iff_not]; omega
    rw [e]
    exact no fun x => h x.2
theorem brB_eq {n : Int} {es : List E} {i : Int} (h : gOk n es = true ∧ 0 ≤ i ∧ i < es.length) : brB n es i = !(dropO n es i).2.2 := by
  unfold brB dropO
  rw [decide_eq_true h, Bool.true_and]
  by_cases c : gOk n (es.eraseIdx i.toNat) = true
  · rw [if_pos ⟨h, c⟩, c]
  · rw [if_neg fun x => c x.2]
    simpa using c
theorem implBr (n : Int) (es : List E) (i : Int) : Ep (fun k => impl_IsBridge.f k n es i) (· = brB n es i) := by
  have no : ¬ (gOk n es = true ∧ 0 ≤ i ∧ i < es.length) → false = brB n es i := fun h => by unfold brB; rw [decide_eq_false h]; rfl
  simp only [impl_IsBridge.f]
  refine Ep.bind0 (implGraph n es) ?_
  refine Ep.ite (fun hg => ?_) (fun hg => Ep.now (no fun x => hg x.1))
  have hG := (gOk_iff.1 hg).1
  unfold EsOk at hG
  rw [wrap_id (x := (es.length : Int) - 1) (by omega) (by omega)]
  refine Ep.bind0 (within_eq _ _ _) ?_
  refine Ep.ite (fun h => ?_) (fun h => Ep.now (no fun x => h (by rw [decide_eq_true_eq]; omega)))
  rw [decide_eq_true_eq] at h
  refine Ep.bind (implDropE n es i) ?_
  rintro _ rfl
  exact Ep.now (brB_eq ⟨hg, by omega, by omega⟩).symm
/-- The bridges below k. -/
def brs (n : Int) (es : List E) : Nat → List Int
  | 0 => []
  | k + 1 => if brB n es (k : Int) = true then brs n es k ++ [(k : Int)] else brs n es k
theorem brs_succ (n : Int) (es : List E) (k : Nat) : brs n es (k + 1) = if brB n es (k : Int) = true then brs n es k ++ [(k : Int)] else brs n es k := rfl
theorem brs_len (n : Int) (es : List E) : ∀ k, (brs n es k).length ≤ k
  | 0 => Nat.le_refl _
  | k + 1 => by
    have := brs_len n es k
    unfold brs
    split
    · simp; omega
    · omega
def brO (n : Int) (es : List E) : List Int := if gOk n es = true then brs n es es.length else []
theorem brO_len (n : Int) (es : List E) : (brO n es).length ≤ 12 := by
  unfold brO
  split
  · rename_i h
    have hG := (gOk_iff.1 h).1
    unfold EsOk at hG
    have := brs_len n es es.length
    omega
  · simp
theorem implBrs_l0 {n : Int} {es : List E} (hel : es.length ≤ 12) : ∀ (d i : Nat), i + d = es.length → Ep (fun k => impl_BridgesOf.l0 k (brs n es i) (es.length : Int) (i : Int) n es) (· = brs n es es.length) := by
  intro d
  induction d with
  | zero =>
    intro i hi
    obtain rfl : i = es.length := by omega
    refine Ep.up ?_
    simp only [impl_BridgesOf.l0]
    exact Ep.neg (by omega) (Ep.now rfl)
  | succ d ih =>
    intro i hi
    have h1 := ih (i + 1) (by omega)
    have hl := brs_len n es i
    refine Ep.up ?_
    simp only [impl_BridgesOf.l0]
    refine Ep.pos (by omega) (Ep.bind (implBr n es _) ?_)
    rintro _ rfl
    rw [wrap_succ (by omega)]
    rw [brs_succ] at h1
    refine Ep.ite (fun h => ?_) (fun h => ?_)
    · rw [if_pos h] at h1
      exact Ep.pos (by omega) h1
    · rw [if_neg h] at h1
      exact h1
theorem implBrs (n : Int) (es : List E) : Ep (fun k => impl_BridgesOf.f k n es) (· = brO n es) := by
  simp only [impl_BridgesOf.f, brO]
  refine Ep.bind0 (implGraph n es) ?_
  refine Ep.ite (fun h => ?_) (fun h => Ep.now (by rw [if_neg h]))
  rw [if_pos h]
  have hG := (gOk_iff.1 h).1
  unfold EsOk at hG
  exact implBrs_l0 hG.2.2.1 es.length 0 (by omega)
theorem extS_mem {s t : List Int} {n : Nat} : t ∈ extS s n ↔ ∃ j : Nat, fstS s ≤ j ∧ j < n ∧ t = s ++ [(j : Int)] := by
  unfold extS
  rw [List.mem_map]
  constructor
  · rintro ⟨d, hd, rfl⟩
    rw [List.mem_range] at hd
    exact ⟨fstS s + d, by omega, by omega, rfl⟩
  · rintro ⟨j, h1, h2, rfl⟩
    exact ⟨j - fstS s, by rw [List.mem_range]; omega, by rw [show fstS s + (j - fstS s) = j by omega]⟩
/-- The sets are the lists that increase. -/
theorem setsN_mem {n : Nat} : ∀ {k : Nat} {s : List Int}, s ∈ setsN n k ↔ s.length = k ∧ (∀ x ∈ s, 0 ≤ x ∧ x < (n : Int)) ∧ s.Pairwise (· < ·)
  | 0, s => by
    rw [setsN, List.mem_singleton]
    constructor
    · rintro rfl
      exact ⟨rfl, fun x hx => absurd hx List.not_mem_nil, List.Pairwise.nil⟩
    · rintro ⟨h, _⟩
      exact List.length_eq_zero_iff.1 h
  | k + 1, s => by
    rw [setsN, List.mem_flatMap]
    constructor
    · rintro ⟨t, ht, hs⟩
      obtain ⟨h1, h2, h3⟩ := setsN_mem.1 ht
      obtain ⟨j, hj1, hj2, rfl⟩ := extS_mem.1 hs
      refine ⟨by rw [List.length_append, h1]; rfl, ?_, ?_⟩
      · intro x hx
        rcases List.mem_append.1 hx with hx | hx
        · exact h2 x hx
        · rw [List.mem_singleton.1 hx]
          omega
      · rw [List.pairwise_append]
        refine ⟨h3, List.pairwise_singleton _ _, ?_⟩
        intro a ha b hb
        rw [List.mem_singleton.1 hb]
        have := fst_gt h3 (fun x hx => (h2 x hx).1) ha
        omega
    · rintro ⟨h1, h2, h3⟩
      have hd := (List.dropLast_concat_getLast (l := s) (by intro e; rw [e] at h1; cases h1)).symm
      generalize s.dropLast = t at hd
      generalize s.getLast _ = y at hd
      subst hd
      rw [List.length_append] at h1
      rw [List.pairwise_append] at h3
      have hy := h2 y (List.mem_append.2 (Or.inr List.mem_cons_self))
      refine ⟨t, setsN_mem.2 ⟨by simpa using h1, fun x hx => h2 x (List.mem_append.2 (Or.inl hx)), h3.1⟩, extS_mem.2 ⟨y.toNat, ?_, by omega, by rw [Int.toNat_of_nonneg hy.1]⟩⟩
      rcases fst_or t (fun x hx => (h2 x (List.mem_append.2 (Or.inl hx))).1) with h | ⟨x, hx, h⟩
      · omega
      · have := h3.2.2 x hx y List.mem_cons_self
        omega
theorem up_pw {l : List Int} (h : Up l l.length) : l.Pairwise (· < ·) := by
  have key : ∀ (d i : Nat) (hi : i + d + 1 < l.length), l[i]'(by omega) < l[i + d + 1] := by
    intro d
    induction d with
    | zero => intro i hi; exact h i hi (by omega)
    | succ d ih =>
      intro i hi
      have h1 := ih i (by omega)
      have h2 := h (i + d + 1) hi (by omega)
      have e : l[i + (d + 1) + 1] = l[i + d + 1 + 1] := rfl
      omega
  rw [List.pairwise_iff_getElem]
  intro i j hi hj hij
  have := key (j - i - 1) i (by omega)
  have e : i + (j - i - 1) + 1 = j := by omega
  simpa only [e] using this
noncomputable def treeL (n : Int) (es : List E) : List (List Int) := (setsN es.length (n.toNat - 1)).filter (treeB n es)
theorem treeL_mem {n : Int} {es : List E} {l : List Int} : l ∈ treeL n es ↔ TreeOk n es l := by
  unfold treeL
  rw [List.mem_filter, treeB_iff]
  constructor
  · exact fun h => h.2
  · intro h
    refine ⟨setsN_mem.2 ⟨?_, ?_, up_pw h.2.2.2.1⟩, h⟩
    · have := h.2.1
      omega
    · intro x hx
      obtain ⟨j, hj, rfl⟩ := List.getElem_of_mem hx
      exact h.2.2.1 j hj hj
theorem leE_tr {a b c : E} (h1 : leE a b) (h2 : leE b c) : leE a c := by
  unfold leE at *
  omega
theorem sorted_pw {es : List E} : Sorted es ↔ es.Pairwise leE := by
  constructor
  · intro h
    have key : ∀ (d i : Nat) (hi : i + d + 1 < es.length), leE (es[i]'(by omega)) es[i + d + 1] := by
      intro d
      induction d with
      | zero => intro i hi; exact h i hi
      | succ d ih =>
        intro i hi
        exact leE_tr (ih i (by omega)) (h (i + d + 1) hi)
    rw [List.pairwise_iff_getElem]
    intro i j hi hj hij
    have := key (j - i - 1) i (by omega)
    have e : i + (j - i - 1) + 1 = j := by omega
    simpa only [e] using this
  · intro h i hi
    exact List.pairwise_iff_getElem.1 h i (i + 1) (by omega) hi (by omega)
theorem erase_ok {n : Int} {es : List E} (h : GOk n es) (i : Nat) (hj : Joined n (es.eraseIdx i)) : GOk n (es.eraseIdx i) := by
  obtain ⟨⟨h1, h2, h3, h4⟩, h5, _⟩ := h
  refine ⟨⟨h1, h2, Nat.le_trans (List.length_eraseIdx_le _ _) h3, fun e he => h4 e (List.mem_of_mem_eraseIdx he)⟩, ?_, hj⟩
  rw [sorted_pw] at h5 ⊢
  exact h5.sublist (List.eraseIdx_sublist _ _)
theorem bridge_iff {n : Nat} {es : List E} (hg : GOk (n : Int) es) {i : Nat} (hi : i < es.length) : brB (n : Int) es (i : Int) = true ↔ ∀ t ∈ treeL (n : Int) es, (i : Int) ∈ t := by
  have hb : brB (n : Int) es (i : Int) = true ↔ ¬ GOk (n : Int) (es.eraseIdx i) := by
    unfold brB
    rw [Bool.and_eq_true, decide_eq_true_eq, Bool.not_eq_true', Int.toNat_natCast, ← Bool.not_eq_true, gOk_iff, gOk_iff]
    exact ⟨fun h => h.2, fun h => ⟨⟨hg, by omega, by omega⟩, h⟩⟩
  rw [hb]
  constructor
  · intro h t ht
    apply Classical.byContradiction
    intro hn
    have hT := treeL_mem.1 ht
    refine h (erase_ok hg i ?_)
    intro v h0 h1
    refine (hT.2.2.2.2 v h0 h1).sub ?_
    intro e he
    unfold edgesAt at he
    obtain ⟨k, hk, rfl⟩ := List.mem_map.1 he
    obtain ⟨j, hj, rfl⟩ := List.getElem_of_mem hk
    have hr := hT.2.2.1 j hj hj
    rw [List.mem_eraseIdx_iff_getElem]
    refine ⟨t[j].toNat, by omega, ?_, ?_⟩
    · intro e2
      refine hn ?_
      rw [← e2, Int.toNat_of_nonneg hr.1]
      exact List.getElem_mem _
    · rw [List.getD_eq_getElem?_getD, List.getElem?_eq_getElem (by omega)]
      rfl
  · intro h hok
    have h1 : 1 ≤ n := by have := hg.1.1; omega
    obtain ⟨l, hl, hA, _⟩ := tree_ex h1 (es := es) (A := (upG es.length).filter fun a => decide (a ≠ (i : Int))) (fun a ha => upG_mem.1 (List.mem_filter.1 ha).1) hg (by
      intro v h0 hv
      refine (hok.2.2 v h0 hv).sub ?_
      intro e he
      obtain ⟨j, hj, hne, rfl⟩ := List.mem_eraseIdx_iff_getElem.1 he
      refine List.mem_map.2 ⟨(j : Int), List.mem_filter.2 ⟨upG_mem.2 ⟨by omega, by omega⟩, by simp; omega⟩, ?_⟩
      rw [Int.toNat_natCast, List.getD_eq_getElem?_getD, List.getElem?_eq_getElem hj]
      rfl)
    have := hA _ (h l (treeL_mem.2 hl))
    rw [List.mem_filter] at this
    simp at this
theorem treeL_ne {n : Nat} {es : List E} (hg : GOk (n : Int) es) : treeL (n : Int) es ≠ [] := by
  have h1 : 1 ≤ n := by have := hg.1.1; omega
  obtain ⟨l, hl, _⟩ := tree_ex h1 (es := es) (A := upG es.length) (fun a ha => upG_mem.1 ha) hg (by
    intro v h0 hv
    refine (hg.2.2 v h0 hv).sub ?_
    intro e he
    obtain ⟨j, hj, rfl⟩ := List.getElem_of_mem he
    refine List.mem_map.2 ⟨(j : Int), upG_mem.2 ⟨by omega, by omega⟩, ?_⟩
    rw [Int.toNat_natCast, List.getD_eq_getElem?_getD, List.getElem?_eq_getElem hj]
    rfl)
  intro e
  have := treeL_mem.2 hl
  rw [e] at this
  cases this
theorem specAll_l0 (m : Nat) (hm : m ≤ 100) : ∀ (d i : Nat), i + d = m → Ep (fun k => spec_l03All.l0 k (m : Int) (upTo i) (i : Int)) (· = upTo m) := by
  intro d
  induction d with
  | zero =>
    intro i hi
    refine Ep.up ?_
    simp only [spec_l03All.l0]
    refine Ep.neg (by omega) (Ep.now ?_)
    rw [show i = m by omega]
  | succ d ih =>
    intro i hi
    have h := ih (i + 1) (by omega)
    have e : upTo (i + 1) = upTo i ++ [(i : Int)] := by unfold upTo; rw [List.range_succ, List.map_append]; rfl
    rw [e] at h
    have hl : (upTo i).length = i := by unfold upTo; simp
    refine Ep.up ?_
    simp only [spec_l03All.l0]
    refine Ep.pos (by omega) (Ep.pos (by omega) ?_)
    rw [wrap_succ (by omega)]
    exact h
theorem specAll (m : Nat) (hm : m ≤ 100) : Ep (fun k => spec_l03All.f k (m : Int)) (· = upTo m) := by
  simp only [spec_l03All.f]
  exact specAll_l0 m hm m 0 (by omega)
theorem specDeterminant {m : Nat} (hm : m ≤ 5) {M : List (List Int)} (hM : SqOk m M) : Ep (fun k => spec_Determinant.f k M) (· = detL M (upTo m) (upTo m)) := by
  have hM1 := hM.1
  have hu : (upTo m).length = m := by unfold upTo; simp
  simp only [spec_Determinant.f]
  refine Ep.bind (specMatrixOk hm hM) ?_
  rintro _ rfl
  rw [hM1]
  refine Ep.pos rfl (Ep.bind (specAll m (by omega)) ?_)
  rintro _ rfl
  refine Ep.bind (specAll m (by omega)) ?_
  rintro _ rfl
  refine Ep.bind (specDet hm hM (upTo m) (by omega) (fun r hr => upTo_mem.1 hr) (upTo m) (by omega) (fun r hr => upTo_mem.1 hr)) ?_
  rintro _ rfl
  exact Ep.now rfl
theorem specCountTrees {n : Nat} {es : List E} (hg : GOk (n : Int) es) : Ep (fun k => spec_CountTrees.f k (n : Int) es) (· = dlap es (vsL n 0)) := by
  have hG := hg.1
  unfold EsOk at hG
  simp only [spec_CountTrees.f]
  refine Ep.bind (specGraph _ _) ?_
  rintro _ rfl
  refine Ep.pos (gOk_iff.2 hg) (Ep.bind (specRL hg (q := 0) (by omega)) ?_)
  rintro _ rfl
  refine Ep.bind (specDeterminant (by omega) (redM_sq (q := 0) (by omega) hG.2.2.1)) ?_
  rintro _ rfl
  rw [redM_det (by omega)]
  exact Ep.now rfl
open Classical in
noncomputable def trO (n : Int) (es : List E) : List (List Int) × Bool := if gOk n es = true ∧ dlap es (vsL n.toNat 0) ≤ 400 then (treeL n es, true) else ([], false)
/-- An answer for each of a list's elements, with one number of rounds. -/
theorem Ep.all {α β : Type} {f : Nat → α → Option β} {g : α → β} : ∀ (L : List α), (∀ x ∈ L, Ep (fun k => f k x) (· = g x)) → ∃ K, ∀ k, K ≤ k → ∀ x ∈ L, f k x = some (g x)
  | [], _ => ⟨0, fun k _ x hx => absurd hx List.not_mem_nil⟩
  | a :: L, h => by
    obtain ⟨K, hK⟩ := Ep.all L fun x hx => h x (List.mem_cons_of_mem _ hx)
    obtain ⟨_, rfl, J, hJ⟩ := h a List.mem_cons_self
    refine ⟨max K J, fun k hk x hx => ?_⟩
    rcases List.mem_cons.1 hx with rfl | hx
    · exact hJ k (by omega)
    · exact hK k (by omega) x hx
theorem implTrees (n : Int) (es : List E) : Ep (fun k => impl_TreesOf.f k n es) (· = trO n es) := by
  simp only [impl_TreesOf.f]
  refine Ep.bind0 (implGraph _ _) ?_
  unfold trO
  by_cases c : gOk n es = true
  · have hg := gOk_iff.1 c
    have hG := hg.1
    unfold EsOk at hG
    obtain ⟨m, rfl⟩ := Int.eq_ofNat_of_zero_le (show 0 ≤ n by omega)
    simp only [Int.toNat_natCast]
    refine Ep.pos c (Ep.bind (implCountTrees hg) ?_)
    rintro _ rfl
    by_cases h4 : dlap es (vsL m 0) ≤ 400
    · refine Ep.pos h4 ?_
      rw [if_pos ⟨c, h4⟩]
      obtain ⟨K, hK⟩ := Ep.all (f := fun k s => impl_IsTree.f k (m : Int) es s) (g := fun s => treeB (m : Int) es s) (setsN es.length (m - 1)) fun s hs => implTree (m : Int) es s (by have := (setsN_ok hs).1; omega)
      refine ⟨_, rfl, K, fun k hk => ?_⟩
      have h := hK k hk
      refine (if_pos (show impl_TreesOf.ok k (m : Int) es from ⟨by omega, hG.2.2.1, fun s hs => by rw [h s hs]; rfl⟩)).trans ?_
      congr 2
      show _ = treeL (m : Int) es
      unfold treeL
      rw [Int.toNat_natCast]
      refine List.filter_congr fun s hs => ?_
      rw [h s hs]
      cases treeB (m : Int) es s <;> rfl
    · refine Ep.neg h4 (Ep.now ?_)
      rw [if_neg (fun h => h4 h.2)]
  · refine Ep.neg c (Ep.now ?_)
    rw [if_neg (fun h => c h.1)]
theorem specTrees_l0 {n : Nat} {es : List E} (hg : GOk (n : Int) es) (L : List (List Int)) (hL : L.length ≤ 3000000) (hm : ∀ s ∈ L, s ∈ setsN es.length (n - 1)) : ∀ (d i : Nat), i + d = L.length → Ep (fun k => spec_TreesOf.l0 k ((L.take i).filter (treeB (n : Int) es)) L (L.length : Int) (i : Int) (n : Int) es) (· = (L.filter (treeB (n : Int) es), true)) := by
  have hG := hg.1
  unfold EsOk at hG
  intro d
  induction d with
  | zero =>
    intro i hi
    refine Ep.up ?_
    simp only [spec_TreesOf.l0]
    refine Ep.neg (by omega) (Ep.now ?_)
    rw [List.take_of_length_le (by omega)]
  | succ d ih =>
    intro i hi
    have h := ih (i + 1) (by omega)
    have hlt : i < L.length := by omega
    have e : rd_L3 L (i : Int) = L[i] := by
      unfold rd_L3
      rw [Int.toNat_natCast, List.getD_eq_getElem?_getD, List.getElem?_eq_getElem hlt]
      rfl
    have hmem := setsN_mem.1 (hm _ (List.getElem_mem hlt))
    have hr : InR es L[i] L[i].length := fun j hj _ => hmem.2.1 _ (List.getElem_mem hj)
    have hu : Up L[i] L[i].length := fun j hj _ => List.pairwise_iff_getElem.1 hmem.2.2 j (j + 1) (by omega) hj (by omega)
    have hlen : (L[i].length : Int) = (n : Int) - 1 := by have := hmem.1; omega
    have ht : ((L.take i).filter (treeB (n : Int) es)).length ≤ 3000000 := Nat.le_trans (List.length_filter_le _ _) (by rw [List.length_take]; omega)
    rw [List.take_succ_eq_append_getElem hlt, List.filter_append] at h
    refine Ep.up ?_
    simp only [spec_TreesOf.l0]
    refine Ep.pos (by omega) (Ep.pos (by omega) (Ep.pos (by omega) ?_))
    rw [e, wrap_succ (by omega)]
    refine Ep.bind (specJoins n (by omega) es L[i] (by omega) hG.2.2.2 hr) ?_
    rintro _ rfl
    rw [treeB_joined hg hlen hr hu]
    by_cases c : treeB (n : Int) es L[i] = true
    · rw [List.filter_cons_of_pos c] at h
      exact Ep.pos c (Ep.pos (by omega) h)
    · rw [List.filter_cons_of_neg c, List.filter_nil, List.append_nil] at h
      exact Ep.neg c h
theorem specTrees (n : Int) (es : List E) : Ep (fun k => spec_TreesOf.f k n es) (· = trO n es) := by
  simp only [spec_TreesOf.f]
  refine Ep.bind (specGraph _ _) ?_
  rintro _ rfl
  unfold trO
  by_cases c : gOk n es = true
  · have hg := gOk_iff.1 c
    have hG := hg.1
    unfold EsOk at hG
    obtain ⟨m, rfl⟩ := Int.eq_ofNat_of_zero_le (show 0 ≤ n by omega)
    rw [Int.toNat_natCast]
    refine Ep.pos c (Ep.bind (specCountTrees hg) ?_)
    rintro _ rfl
    refine Ep.up ?_
    simp only [spec_TreesOf.j0]
    by_cases h4 : dlap es (vsL m 0) ≤ 400
    · rw [if_pos ⟨c, h4⟩]
      refine Ep.neg (by simp; omega) ?_
      refine Ep.bind0 (a := setsN es.length (m - 1)) ?_ ?_
      · rw [wrap_id (by omega) (by omega), show (m : Int) - 1 = ((m - 1 : Nat) : Int) by omega]
        unfold spec_l03Sets.f
        rw [if_pos (by omega), Int.toNat_natCast, Int.toNat_natCast]
      · have hS := setsN_len6 (n := es.length) hG.2.2.1 (k := m - 1) (by omega)
        have h := specTrees_l0 hg (setsN es.length (m - 1)) (by omega) (fun s hs => hs) (setsN es.length (m - 1)).length 0 (by omega)
        unfold treeL
        rw [Int.toNat_natCast]
        exact h
    · rw [if_neg (fun h => h4 h.2)]
      exact Ep.pos (by simp; omega) (Ep.now rfl)
  · rw [if_neg (fun h => c h.1)]
    refine Ep.neg c (Ep.up ?_)
    simp only [spec_TreesOf.j0]
    exact Ep.pos (by first | rfl | trivial | simp) (Ep.now rfl)
theorem treeL_small {n : Int} {es : List E} (hes : es.length ≤ 12) (hn : n ≤ 6) : (treeL n es).length ≤ 3000000 ∧ ∀ s ∈ treeL n es, s.length ≤ 6 := by
  unfold treeL
  refine ⟨Nat.le_trans (List.length_filter_le _ _) (Nat.le_trans (setsN_len6 hes (by omega)) (by omega)), fun s hs => ?_⟩
  have := (setsN_ok (List.mem_filter.1 hs).1).1
  omega
end Go.Proofs.Ytdfibdjjoplmmaa.Cf
end

section
namespace Go.Proofs.Ytdfibdjjoplmmaa.Cf
set_option linter.unusedVariables false
set_option linter.unusedSimpArgs false
open Go.RowKit Go.Proofs.YtdfibdjjoplmmaaW.PrintWords
/-- Each vertex of vs is joined to a root. -/
def Span (A : List E) (vs : List Int) : Prop := ∀ v ∈ vs, ∃ u, u ∉ vs ∧ Conn A u v
theorem Span.sub {A B : List E} {vs : List Int} (h : Span A vs) (hs : ∀ e ∈ A, e ∈ B) : Span B vs := fun v hv => by
  obtain ⟨u, hu, hc⟩ := h v hv
  exact ⟨u, hu, hc.sub hs⟩
/-- An edge between roots is not wanted. -/
theorem span_loop {e : E} {A : List E} {vs : List Int} (h0 : e.f0 ∉ vs) (h1 : e.f1 ∉ vs) : Span (e :: A) vs ↔ Span A vs := by
  refine ⟨fun h v hv => ?_, fun h => h.sub fun x hx => List.mem_cons_of_mem _ hx⟩
  obtain ⟨u, hu, hc⟩ := h v hv
  have key : ∀ x, Conn (e :: A) u x → x ∈ vs → ∃ u', u' ∉ vs ∧ Conn A u' x := by
    intro x hx
    induction hx with
    | refl => exact fun h => absurd h hu
    | tail hy hadj ih =>
      rename_i y x
      intro hxv
      obtain ⟨f, hf, hfx⟩ := hadj
      have hfe : f ∈ A := by
        rcases List.mem_cons.1 hf with rfl | hf
        · rcases hfx with h | h
          · exact absurd (h.2 ▸ hxv) h1
          · exact absurd (h.1 ▸ hxv) h0
        · exact hf
      by_cases hyv : y ∈ vs
      · obtain ⟨u', hu', hc'⟩ := ih hyv
        exact ⟨u', hu', hc'.tail ⟨f, hfe, hfx⟩⟩
      · exact ⟨y, hyv, Conn.one ⟨f, hfe, hfx⟩⟩
  exact key v hc hv
theorem span_cut {e : E} {A : List E} {vs : List Int} {u v : Int} (huv : (e.f0 = u ∧ e.f1 = v) ∨ (e.f0 = v ∧ e.f1 = u)) (hn : vs.Nodup) (hv : v ∈ vs) (hu : u ∉ vs) : Span (e :: A) vs ↔ Span A (vs.erase v) := by
  have hve : v ∉ vs.erase v := fun h => (hn.mem_erase_iff.1 h).1 rfl
  have hue : u ∉ vs.erase v := fun h => hu (List.mem_of_mem_erase h)
  constructor
  · intro h
    have h2 : Span (e :: A) (vs.erase v) := fun w hw => by
      obtain ⟨x, hx, hc⟩ := h w (List.mem_of_mem_erase hw)
      exact ⟨x, fun q => hx (List.mem_of_mem_erase q), hc⟩
    exact (span_loop (by rcases huv with q | q <;> rw [q.1] <;> assumption) (by rcases huv with q | q <;> rw [q.2] <;> assumption)).1 h2
  · intro h w hw
    have hadj : Conn (e :: A) u v := Conn.one ⟨e, List.mem_cons_self, huv⟩
    by_cases c : w = v
    · exact ⟨u, hu, c ▸ hadj⟩
    · obtain ⟨x, hx, hc⟩ := h w (hn.mem_erase_iff.2 ⟨c, hw⟩)
      have hc' : Conn (e :: A) x w := hc.sub fun y hy => List.mem_cons_of_mem _ hy
      by_cases d : x = v
      · exact ⟨u, hu, hadj.trans (d ▸ hc')⟩
      · exact ⟨x, fun q => hx (hn.mem_erase_iff.2 ⟨d, q⟩), hc'⟩
theorem span_far {A : List E} {vs : List Int} (hv : vs ≠ []) (hf : ∀ e ∈ A, e.f0 ∈ vs ↔ e.f1 ∈ vs) : ¬ Span A vs := fun h => by
  cases vs with
  | nil => exact hv rfl
  | cons v vs =>
    obtain ⟨u, hu, hc⟩ := h v List.mem_cons_self
    have : (fun x => x ∉ v :: vs) v := hc.closed (S := fun x => x ∉ v :: vs) (fun a b ha hab hb => by
      obtain ⟨e, he, hx⟩ := hab
      have := hf e he
      rcases hx with ⟨x0, x1⟩ | ⟨x0, x1⟩
      · rw [x0, x1] at this; exact ha (this.2 hb)
      · rw [x0, x1] at this; exact ha (this.1 hb)) hu
    exact this List.mem_cons_self
theorem span_len : ∀ (m : Nat) {A : List E} {vs : List Int}, vs.length = m → vs.Nodup → Span A vs → m ≤ A.length := by
  intro m
  induction m with
  | zero => intro A vs _ _ _; omega
  | succ m ih =>
    intro A vs hm hn h
    have hx : ∃ e ∈ A, ∃ u v : Int, ((e.f0 = u ∧ e.f1 = v) ∨ (e.f0 = v ∧ e.f1 = u)) ∧ v ∈ vs ∧ u ∉ vs := by
      apply Classical.byContradiction
      intro hno
      refine span_far (vs := vs) (fun e => by rw [e] at hm; simp at hm) (fun e he => ⟨fun h0 => Classical.byContradiction fun h1 => hno ⟨e, he, e.f1, e.f0, .inr ⟨rfl, rfl⟩, h0, h1⟩, fun h1 => Classical.byContradiction fun h0 => hno ⟨e, he, e.f0, e.f1, .inl ⟨rfl, rfl⟩, h1, h0⟩⟩) h
    obtain ⟨e, he, u, v, huv, hv, hu⟩ := hx
    obtain ⟨l1, l2, rfl⟩ := List.append_of_mem he
    have h2 : Span (e :: (l1 ++ l2)) vs := h.sub fun x hx => by simp at hx ⊢; rcases hx with q | q | q <;> simp [q]
    have := ih (by rw [List.length_erase_of_mem hv, hm]; rfl) (hn.erase v) ((span_cut huv hn hv hu).1 h2)
    simp at this ⊢
    omega
def sumS : List E → (List E → Int) → Int
  | [], f => f []
  | e :: es, f => sumS es f + sumS es fun A => f (e :: A)
theorem sumS_congr : ∀ {es : List E} {f g : List E → Int}, (∀ A, (∀ e ∈ A, e ∈ es) → f A = g A) → sumS es f = sumS es g
  | [], f, g, h => h [] fun _ h => h
  | e :: es, f, g, h => by
    unfold sumS
    rw [sumS_congr (es := es) (f := f) (g := g) fun A hA => h A fun x hx => List.mem_cons_of_mem _ (hA x hx), sumS_congr (es := es) (f := fun A => f (e :: A)) (g := fun A => g (e :: A)) fun A hA => h _ fun x hx => by
      rcases List.mem_cons.1 hx with rfl | hx
      · exact List.mem_cons_self
      · exact List.mem_cons_of_mem _ (hA x hx)]
theorem sumS_add (es : List E) : ∀ (f g : List E → Int), sumS es (fun A => f A + g A) = sumS es f + sumS es g := by
  induction es with
  | nil => intro f g; rfl
  | cons e es ih =>
    intro f g
    unfold sumS
    rw [ih f g, ih (fun A => f (e :: A)) (fun A => g (e :: A))]
    omega
theorem sumS_mul (es : List E) (c : Int) : ∀ (f : List E → Int), sumS es (fun A => c * f A) = c * sumS es f := by
  induction es with
  | nil => intro f; rfl
  | cons e es ih =>
    intro f
    unfold sumS
    rw [ih f, ih fun A => f (e :: A), Int.mul_add]
theorem sumS_zero {es : List E} {f : List E → Int} (h : ∀ A, (∀ e ∈ A, e ∈ es) → f A = 0) : sumS es f = 0 := by
  rw [sumS_congr (g := fun _ => 0 * 0) fun A hA => h A hA, sumS_mul es 0 fun _ => 0, Int.zero_mul]
theorem sumS_perm {es es' : List E} (h : es.Perm es') : ∀ {f : List E → Int}, (∀ A B, A.Perm B → f A = f B) → sumS es f = sumS es' f := by
  induction h with
  | nil => intro f _; rfl
  | cons x _ ih =>
    intro f hf
    unfold sumS
    rw [ih hf, ih (f := fun A => f (x :: A)) fun A B hAB => hf _ _ (hAB.cons x)]
  | swap x y l =>
    intro f hf
    have e : sumS l (fun A => f (y :: x :: A)) = sumS l fun A => f (x :: y :: A) := sumS_congr fun A _ => hf _ _ (List.Perm.swap x y A)
    show sumS l f + sumS l (fun A => f (x :: A)) + (sumS l (fun A => f (y :: A)) + sumS l fun A => f (y :: x :: A)) = sumS l f + sumS l (fun A => f (y :: A)) + (sumS l (fun A => f (x :: A)) + sumS l fun A => f (x :: y :: A))
    omega
  | trans _ _ h1 h2 => intro f hf; exact (h1 hf).trans (h2 hf)
open Classical in
noncomputable def zt (c : Int) (vs : List Int) (A : List E) : Int := if Span A vs then (c - 1) ^ (A.length - vs.length) else 0
theorem zt_pos {c : Int} {vs : List Int} {A : List E} (h : Span A vs) : zt c vs A = (c - 1) ^ (A.length - vs.length) := if_pos h
theorem zt_neg {c : Int} {vs : List Int} {A : List E} (h : ¬ Span A vs) : zt c vs A = 0 := if_neg h
/-- The sets that span, each counted (c - 1) to the power of what is too much. -/
noncomputable def zsum (c : Int) (es : List E) (vs : List Int) : Int := sumS es (zt c vs)
theorem span_perm {A B : List E} (h : A.Perm B) (vs : List Int) : Span A vs ↔ Span B vs := ⟨fun k => k.sub fun _ hx => h.mem_iff.1 hx, fun k => k.sub fun _ hx => h.mem_iff.2 hx⟩
theorem zsum_rec (c : Int) : Rec c (zsum c) where
  perm := fun {es es' vs} h => sumS_perm h fun A B hAB => by
    by_cases k : Span A vs
    · rw [zt_pos k, zt_pos ((span_perm hAB vs).1 k), hAB.length_eq]
    · rw [zt_neg k, zt_neg fun q => k ((span_perm hAB vs).2 q)]
  nil := by
    show zt c [] [] = 1
    rw [zt_pos fun v hv => by cases hv]
    simp
  loop := fun e es vs hnd h0 h1 => by
    show sumS es (zt c vs) + sumS es (fun A => zt c vs (e :: A)) = c * sumS es (zt c vs)
    rw [← sumS_add, ← sumS_mul]
    refine sumS_congr fun A _ => ?_
    by_cases k : Span A vs
    · rw [zt_pos k, zt_pos ((span_loop h0 h1).2 k)]
      have hn := span_len vs.length rfl hnd k
      rw [List.length_cons, show A.length + 1 - vs.length = A.length - vs.length + 1 by omega, Int.pow_succ]
      generalize (c - 1) ^ (A.length - vs.length) = p
      rw [Int.mul_sub, Int.mul_comm p c]
      omega
    · rw [zt_neg k, zt_neg fun q => k ((span_loop h0 h1).1 q)]
      simp
  cut := fun e es vs u v huv _ hn hv hu => by
    show sumS es (zt c vs) + sumS es (fun A => zt c vs (e :: A)) = sumS es (zt c vs) + sumS es (zt c (vs.erase v))
    congr 1
    refine sumS_congr fun A _ => ?_
    have hl := List.length_erase_of_mem hv
    have hp : 0 < vs.length := List.length_pos_of_mem hv
    by_cases k : Span A (vs.erase v)
    · rw [zt_pos k, zt_pos ((span_cut huv hn hv hu).2 k), List.length_cons, hl, show A.length + 1 - vs.length = A.length - (vs.length - 1) by omega]
    · rw [zt_neg k, zt_neg fun q => k ((span_cut huv hn hv hu).1 q)]
  far := fun es vs _ _ hv hf => sumS_zero fun A hA => zt_neg (span_far hv fun e he => hf e (hA e he))
end Go.Proofs.Ytdfibdjjoplmmaa.Cf
end

section
namespace Go.Proofs.Ytdfibdjjoplmmaa.Cf
set_option linter.unusedVariables false
set_option linter.unusedSimpArgs false
open Go.RowKit Go.Proofs.YtdfibdjjoplmmaaW.PrintWords
/-- S has k members. -/
def Cnt {α : Type} (S : α → Prop) (k : Int) : Prop := ∃ L : List α, L.Nodup ∧ (∀ x, x ∈ L ↔ S x) ∧ (L.length : Int) = k
open Classical in
theorem nodup_sub {α : Type} : ∀ {L M : List α}, L.Nodup → (∀ x ∈ L, x ∈ M) → L.length ≤ M.length
  | [], M, _, _ => Nat.zero_le _
  | a :: L, M, hn, h => by
    have ha := h a List.mem_cons_self
    have h1 := nodup_sub (L := L) (M := M.erase a) (List.nodup_cons.1 hn).2 fun x hx => by
      have hxa : x ≠ a := fun e => (List.nodup_cons.1 hn).1 (e ▸ hx)
      exact (List.mem_erase_of_ne hxa).2 (h x (List.mem_cons_of_mem _ hx))
    rw [List.length_erase_of_mem ha] at h1
    have := List.length_pos_of_mem ha
    rw [List.length_cons]
    omega
theorem Cnt.unique {α : Type} {S : α → Prop} {k m : Int} (h : Cnt S k) (h' : Cnt S m) : k = m := by
  obtain ⟨L, hL, hs, rfl⟩ := h
  obtain ⟨M, hM, hs', rfl⟩ := h'
  have h1 := nodup_sub hL fun x hx => (hs' x).2 ((hs x).1 hx)
  have h2 := nodup_sub hM fun x hx => (hs x).2 ((hs' x).1 hx)
  omega
theorem nodup_map {α β : Type} {f : α → β} : ∀ {L : List α}, (∀ x ∈ L, ∀ y ∈ L, f x = f y → x = y) → L.Nodup → (L.map f).Nodup
  | [], _, _ => List.nodup_nil
  | a :: L, hf, hn => by
    rw [List.map_cons, List.nodup_cons]
    refine ⟨fun h => ?_, nodup_map (fun x hx y hy => hf x (List.mem_cons_of_mem _ hx) y (List.mem_cons_of_mem _ hy)) (List.nodup_cons.1 hn).2⟩
    obtain ⟨x, hx, he⟩ := List.mem_map.1 h
    have := hf x (List.mem_cons_of_mem _ hx) a List.mem_cons_self he
    exact (List.nodup_cons.1 hn).1 (this ▸ hx)
end Go.Proofs.Ytdfibdjjoplmmaa.Cf
end

section
namespace Go.Proofs.Ytdfibdjjoplmmaa.Cf
set_option linter.unusedVariables false
set_option linter.unusedSimpArgs false
open Go.RowKit Go.Proofs.YtdfibdjjoplmmaaW.PrintWords
theorem sumS_le : ∀ {es : List E} {f : List E → Int}, (∀ A, f A ≤ 1) → sumS es f ≤ 2 ^ es.length
  | [], f, h => by
    have := h []
    simpa [sumS] using this
  | e :: es, f, h => by
    have h1 := sumS_le (es := es) h
    have h2 := sumS_le (es := es) (f := fun A => f (e :: A)) fun A => h _
    unfold sumS
    rw [List.length_cons, Int.pow_succ]
    omega
theorem zt_one {vs : List Int} {A : List E} (h : Span A vs) : zt 1 vs A = if A.length ≤ vs.length then 1 else 0 := by
  rw [zt_pos h, Int.sub_self]
  by_cases c : A.length ≤ vs.length
  · rw [if_pos c, Nat.sub_eq_zero_of_le c]
    rfl
  · rw [if_neg c]
    exact Int.zero_pow (by omega)
theorem zt_le (vs : List Int) (A : List E) : zt 1 vs A ≤ 1 := by
  by_cases h : Span A vs
  · rw [zt_one h]
    split <;> omega
  · rw [zt_neg h]
    omega
theorem dlap_zsum {es : List E} {vs : List Int} (hl : ∀ x ∈ es, x.f0 ≠ x.f1) (hn : vs.Nodup) : dlap es vs = zsum 1 es vs := Rec.unique (zsum_rec 1) dlap_rec hl hn
theorem dlap_le {es : List E} {vs : List Int} (hl : ∀ x ∈ es, x.f0 ≠ x.f1) (hn : vs.Nodup) : dlap es vs ≤ 2 ^ es.length := by
  rw [dlap_zsum hl hn]
  exact sumS_le (zt_le vs)
/-- All sets of places from i on. -/
def idxL : Nat → List E → List (List Int)
  | _, [] => [[]]
  | i, _ :: es => idxL (i + 1) es ++ (idxL (i + 1) es).map fun s => (i : Int) :: s
theorem idxL_mem : ∀ {es : List E} {i : Nat} {s : List Int}, s ∈ idxL i es ↔ (∀ x ∈ s, (i : Int) ≤ x ∧ x < ((i + es.length : Nat) : Int)) ∧ s.Pairwise (· < ·)
  | [], i, s => by
    rw [idxL, List.mem_singleton]
    constructor
    · rintro rfl
      exact ⟨fun x hx => absurd hx List.not_mem_nil, List.Pairwise.nil⟩
    · rintro ⟨h, _⟩
      cases s with
      | nil => rfl
      | cons a s =>
        have := h a List.mem_cons_self
        rw [List.length_nil] at this
        omega
  | e :: es, i, s => by
    rw [idxL, List.mem_append, List.mem_map]
    constructor
    · rintro (h | ⟨t, ht, rfl⟩)
      · obtain ⟨h1, h2⟩ := idxL_mem.1 h
        refine ⟨fun x hx => ?_, h2⟩
        have := h1 x hx
        rw [List.length_cons]
        omega
      · obtain ⟨h1, h2⟩ := idxL_mem.1 ht
        refine ⟨fun x hx => ?_, List.pairwise_cons.2 ⟨fun y hy => by have := h1 y hy; omega, h2⟩⟩
        rw [List.length_cons]
        rcases List.mem_cons.1 hx with rfl | hx
        · omega
        · have := h1 x hx
          omega
    · rintro ⟨h1, h2⟩
      rw [List.length_cons] at h1
      cases s with
      | nil => exact Or.inl (idxL_mem.2 ⟨fun x hx => absurd hx List.not_mem_nil, List.Pairwise.nil⟩)
      | cons a s =>
        rw [List.pairwise_cons] at h2
        have ha := h1 a List.mem_cons_self
        have hs : ∀ x ∈ s, ((i + 1 : Nat) : Int) ≤ x ∧ x < ((i + 1 + es.length : Nat) : Int) := fun x hx => by
          have := h2.1 x hx
          have := h1 x (List.mem_cons_of_mem _ hx)
          omega
        by_cases c : a = (i : Int)
        · subst c
          exact Or.inr ⟨s, idxL_mem.2 ⟨hs, h2.2⟩, rfl⟩
        · refine Or.inl (idxL_mem.2 ⟨fun x hx => ?_, List.pairwise_cons.2 h2⟩)
          rcases List.mem_cons.1 hx with rfl | hx
          · omega
          · exact hs x hx
theorem idxL_nodup : ∀ (es : List E) (i : Nat), (idxL i es).Nodup
  | [], _ => List.nodup_cons.2 ⟨List.not_mem_nil, List.nodup_nil⟩
  | e :: es, i => by
    rw [idxL, List.nodup_append]
    refine ⟨idxL_nodup es (i + 1), nodup_map (fun x _ y _ h => by injection h) (idxL_nodup es (i + 1)), ?_⟩
    intro a ha b hb hab
    subst hab
    obtain ⟨t, ht, rfl⟩ := List.mem_map.1 hb
    have := (idxL_mem.1 ha).1 i List.mem_cons_self
    omega
def edgesFrom (es : List E) (i : Nat) (s : List Int) : List E := s.map fun k => es.getD (k.toNat - i) ⟨0, 0⟩
/-- The number of sets that count 1. -/
theorem sumS_count (p : List E → Bool) : ∀ (es : List E) (i : Nat) (pre : List E), sumS es (fun A => if p (pre ++ A) = true then 1 else 0) = (((idxL i es).filter fun s => p (pre ++ edgesFrom es i s)).length : Int)
  | [], i, pre => by
    unfold sumS idxL
    show (if p (pre ++ []) = true then (1 : Int) else 0) = _
    by_cases h : p (pre ++ []) = true
    · rw [if_pos h, List.filter_cons_of_pos (by exact h)]
      rfl
    · rw [if_neg h, List.filter_cons_of_neg (by exact h)]
      rfl
  | e :: es, i, pre => by
    unfold sumS idxL
    rw [List.filter_append, List.length_append, List.filter_map, List.length_map]
    show sumS es (fun A => if p (pre ++ A) = true then (1 : Int) else 0) + sumS es (fun A => if p (pre ++ e :: A) = true then (1 : Int) else 0) = _
    have e1 : sumS es (fun A => if p (pre ++ A) = true then (1 : Int) else 0) = _ := sumS_count p es (i + 1) pre
    have e2 : sumS es (fun A => if p (pre ++ e :: A) = true then (1 : Int) else 0) = (((idxL (i + 1) es).filter fun s => p (pre ++ e :: edgesFrom es (i + 1) s)).length : Int) := by
      have := sumS_count p es (i + 1) (pre ++ [e])
      simp only [List.append_assoc, List.singleton_append] at this
      exact this
    rw [e1, e2]
    have c : ∀ s ∈ idxL (i + 1) es, edgesFrom (e :: es) i s = edgesFrom es (i + 1) s := fun s hs => by
      unfold edgesFrom
      refine List.map_congr_left fun k hk => ?_
      have := (idxL_mem.1 hs).1 k hk
      rw [show k.toNat - i = (k.toNat - (i + 1)) + 1 by omega]
      rfl
    have f1 : (idxL (i + 1) es).filter (fun s => p (pre ++ edgesFrom (e :: es) i s)) = (idxL (i + 1) es).filter fun s => p (pre ++ edgesFrom es (i + 1) s) := List.filter_congr fun s hs => by rw [c s hs]
    have f2 : (idxL (i + 1) es).filter ((fun s => p (pre ++ edgesFrom (e :: es) i s)) ∘ fun s => (i : Int) :: s) = (idxL (i + 1) es).filter fun s => p (pre ++ e :: edgesFrom es (i + 1) s) := List.filter_congr fun s hs => by
      show p (pre ++ edgesFrom (e :: es) i ((i : Int) :: s)) = _
      have : edgesFrom (e :: es) i ((i : Int) :: s) = e :: edgesFrom (e :: es) i s := by
        unfold edgesFrom
        rw [List.map_cons, Int.toNat_natCast, Nat.sub_self]
        rfl
      rw [this, c s hs]
    rw [f1, f2]
    omega
theorem span_joined {n : Nat} (hn : 1 ≤ n) {A : List E} (hA : ∀ e ∈ A, EOk (n : Int) e) : Span A (vsL n 0) ↔ Joined (n : Int) A := by
  constructor
  · intro h v h0 h1
    by_cases c : v = 0
    · rw [c]
      exact Conn.refl
    · obtain ⟨u, hu, huv⟩ := h v ((vsL_mem (by omega)).2 ⟨⟨h0, h1⟩, c⟩)
      have hr := EsOk.conn hA ⟨h0, h1⟩ huv.symm
      have hu0 : u = 0 := Classical.byContradiction fun hc => hu ((vsL_mem (by omega)).2 ⟨hr, hc⟩)
      rw [hu0] at huv
      exact huv
  · intro h v hv
    have := (vsL_mem (by omega)).1 hv
    exact ⟨0, fun c => ((vsL_mem (by omega)).1 c).2 rfl, h v this.1.1 this.1.2⟩
/-- There are as many spanning trees as the determinant says. -/
theorem treeL_count {n : Nat} {es : List E} (hg : GOk (n : Int) es) : ((treeL (n : Int) es).length : Int) = dlap es (vsL n 0) := by
  have h1 : 1 ≤ n := by have := hg.1.1; omega
  have hes := hg.1.2.2.2
  have hl : ∀ x ∈ es, x.f0 ≠ x.f1 := fun x hx => by have := hes x hx; unfold EOk at this; omega
  have hvl := vsL_len (n := n) (q := 0) (by omega)
  rw [dlap_zsum hl (vsL_nodup n 0)]
  unfold zsum
  classical
  have e0 : sumS es (zt 1 (vsL n 0)) = sumS es (fun A => if (decide (Span ([] ++ A) (vsL n 0) ∧ ([] ++ A).length ≤ n - 1)) = true then 1 else 0) := by
    refine sumS_congr fun A _ => ?_
    rw [List.nil_append]
    by_cases c : Span A (vsL n 0)
    · rw [zt_one c, hvl]
      by_cases d : A.length ≤ n - 1
      · rw [if_pos d, if_pos (decide_eq_true ⟨c, d⟩)]
      · rw [if_neg d, if_neg (by simp [d])]
    · rw [zt_neg c, if_neg (by simp [c])]
  rw [e0, sumS_count (fun B => decide (Span B (vsL n 0) ∧ B.length ≤ n - 1)) es 0 []]
  have hc1 : Cnt (fun s => TreeOk (n : Int) es s) ((treeL (n : Int) es).length : Int) := by
    refine ⟨treeL (n : Int) es, ?_, fun x => treeL_mem, rfl⟩
    unfold treeL
    refine List.Pairwise.filter _ ?_
    have hinj : ∀ {k : Nat}, (setsN es.length k).Nodup := by
      intro k
      induction k with
      | zero => exact List.nodup_cons.2 ⟨List.not_mem_nil, List.nodup_nil⟩
      | succ k ih =>
        show ((setsN es.length k).flatMap fun s => extS s es.length).Nodup
        rw [List.Nodup, List.pairwise_flatMap]
        refine ⟨fun s _ => ?_, ih.imp ?_⟩
        · unfold extS
          rw [List.pairwise_map]
          refine List.nodup_range.imp fun h e => h ?_
          have := List.append_cancel_left e
          injection this with this
          omega
        · intro a b hab x hx y hy e
          obtain ⟨j, _, _, rfl⟩ := extS_mem.1 hx
          obtain ⟨j', _, _, rfl⟩ := extS_mem.1 hy
          exact hab (List.append_inj_left' e rfl)
    exact hinj
  have hc2 : Cnt (fun s => TreeOk (n : Int) es s) (((idxL 0 es).filter fun s => decide (Span ([] ++ edgesFrom es 0 s) (vsL n 0) ∧ ([] ++ edgesFrom es 0 s).length ≤ n - 1)).length : Int) := by
    refine ⟨_, (idxL_nodup es 0).filter _, fun s => ?_, rfl⟩
    rw [List.mem_filter, idxL_mem, decide_eq_true_eq, List.nil_append]
    have hed : edgesFrom es 0 s = edgesAt es s := rfl
    rw [hed]
    have hlen : (edgesAt es s).length = s.length := by unfold edgesAt; rw [List.length_map]
    constructor
    · rintro ⟨⟨hr, hp⟩, hs, hle⟩
      have hIn : InR es s s.length := fun j hj _ => by have := hr _ (List.getElem_mem hj); omega
      have hok := edgesAt_ok hes hIn
      have := span_len (n - 1) hvl (vsL_nodup n 0) hs
      exact ⟨hg, by omega, hIn, up_of hp, (span_joined h1 hok).1 hs⟩
    · intro h
      have hok := edgesAt_ok hes h.2.2.1
      refine ⟨⟨fun x hx => ?_, up_pw h.2.2.2.1⟩, (span_joined h1 hok).2 h.2.2.2.2, by have := h.2.1; omega⟩
      obtain ⟨j, hj, rfl⟩ := List.getElem_of_mem hx
      have := h.2.2.1 j hj hj
      omega
  exact hc1.unique hc2
end Go.Proofs.Ytdfibdjjoplmmaa.Cf
end

section
namespace Go.Proofs.Ytdfibdjjoplmmaa.Cf
set_option linter.unusedVariables false
set_option linter.unusedSimpArgs false
open Go.RowKit Go.Proofs.YtdfibdjjoplmmaaW.PrintWords Go.Proofs.Ytdfibdjjoplmmaa.P
theorem below_any {b : List Int} (hb : b.length ≤ 1048576) {i : Int} (h : Int) (hc : Cur b i) {a : Int} (h0 : 1 ≤ a) : ∃ x i' h', spec_l01Below.f b i h a = some (x, i', h') ∧ 0 ≤ x ∧ x < a ∧ Cur b i' := by
  by_cases h1 : a ≤ 256
  · exact below_ok hb h hc h0 h1
  obtain ⟨x, i1, h1', e1, x0, x1, hc1⟩ := byte_ok hb h hc
  obtain ⟨y, i2, h2', e2, y0, y1, hc2⟩ := byte_ok hb h1' hc1
  obtain ⟨z, i3, h3', e3, z0, z1, hc3⟩ := byte_ok hb h2' hc2
  obtain ⟨u, i4, h4', e4, u0, u1, hc4⟩ := byte_ok hb h3' hc3
  have ew : wrap64 ((wrap64 ((wrap64 ((wrap64 (x * 16777216)) + (wrap64 (y * 65536)))) + (wrap64 (z * 256)))) + u) = x * 16777216 + y * 65536 + z * 256 + u := by
    rw [wrap_id (x := x * 16777216) (by omega) (by omega), wrap_id (x := y * 65536) (by omega) (by omega), wrap_id (x := z * 256) (by omega) (by omega), wrap_id (x := x * 16777216 + y * 65536) (by omega) (by omega), wrap_id (x := x * 16777216 + y * 65536 + z * 256) (by omega) (by omega), wrap_id (by omega) (by omega)]
  refine ⟨Int.tmod (x * 16777216 + y * 65536 + z * 256 + u) a, i4, h4', ?_, Int.tmod_nonneg _ (by omega), Int.tmod_lt_of_pos _ (by omega), hc4⟩
  unfold spec_l01Below.f
  rw [if_neg (by omega), if_neg h1, e1]
  dsimp only [Option.bind_some]
  rw [e2]
  dsimp only [Option.bind_some]
  rw [e3]
  dsimp only [Option.bind_some]
  rw [e4]
  dsimp only [Option.bind_some]
  rw [if_neg (by omega), ew]
/-- A cycle of three. -/
def tri : List E := [⟨0, 1⟩, ⟨0, 2⟩, ⟨1, 2⟩]
theorem tri_ok : GOk 3 tri := gOk_iff.1 (by decide)
/-- What MakeTree hands back. -/
def TreeDrawn (r : Int × List E × List Int) : Prop := ∃ n : Nat, r.1 = n ∧ 2 ≤ n ∧ n ≤ 5 ∧ GOk (n : Int) r.2.1 ∧ dlap r.2.1 (vsL n 0) ≤ 400 ∧ r.2.2 ∈ treeL (n : Int) r.2.1
theorem trO_yes {n : Nat} {es : List E} (hg : GOk (n : Int) es) (h : dlap es (vsL n 0) ≤ 400) : trO (n : Int) es = (treeL (n : Int) es, true) := by
  unfold trO
  rw [Int.toNat_natCast, if_pos ⟨gOk_iff.2 hg, h⟩]
theorem trO_no {n : Nat} {es : List E} (h : ¬ dlap es (vsL n 0) ≤ 400) : trO (n : Int) es = ([], false) := by
  unfold trO
  rw [Int.toNat_natCast, if_neg fun c => h c.2]
theorem dlap_loop {n : Nat} {es : List E} (hg : GOk (n : Int) es) : dlap es (vsL n 0) ≤ 2 ^ es.length :=
  dlap_le (fun x hx => by have := hg.1.2.2.2 x hx; unfold EOk at this; omega) (vsL_nodup n 0)
theorem makeTree (b : List Int) (hb : b.length ≤ 1048576) : Ep (fun k => spec_MakeTree.f k b) TreeDrawn := by
  simp only [spec_MakeTree.f]
  refine Ep.bind (cur_new b hb) ?_
  rintro ⟨b', i, h⟩ ⟨rfl, hc⟩
  refine Ep.bind (P := DrawOk b' 5) ?_ ?_
  · simp only [spec_l02Graph.f]
    refine Ep.bind (draw_ok hb h hc (by omega) (by omega)) ?_
    intro a ha
    exact Ep.now ha
  · rintro ⟨n', es, i1, h1⟩ ⟨n, hn, h2, h5, hg, hc1⟩
    dsimp only at hn hg hc1 ⊢
    subst hn
    refine Ep.bind (specTrees _ _) ?_
    rintro _ rfl
    have pickT : ∀ {m : Nat} {l : List E}, GOk (m : Int) l → ∀ Q : Int × List E × List Int → Prop, (∀ t ∈ treeL (m : Int) l, Q ((m : Int), l, t)) → Ep (fun _ : Nat => (spec_l01Below.f b' i1 h1 ((treeL (m : Int) l).length : Int)).bind fun bt => if 0 ≤ bt.1 then (if bt.1 < ((treeL (m : Int) l).length : Int) then some ((m : Int), l, rd_L3 (treeL (m : Int) l) bt.1) else none) else none) Q := by
      intro m l hgl Q hQ
      have hne := treeL_ne hgl
      have hl0 : 0 < (treeL (m : Int) l).length := List.length_pos_iff.2 hne
      obtain ⟨x, i2, h2', e2, x0, x1, _⟩ := below_any hb h1 hc1 (a := ((treeL (m : Int) l).length : Int)) (by omega)
      refine Ep.bind0 e2 (Ep.pos x0 (Ep.pos x1 (Ep.now (hQ _ ?_))))
      unfold rd_L3
      rw [List.getD_eq_getElem?_getD, List.getElem?_eq_getElem (show x.toNat < (treeL (m : Int) l).length by omega)]
      exact List.getElem_mem _
    by_cases h4 : dlap es (vsL n 0) ≤ 400
    · rw [trO_yes hg h4]
      refine Ep.pos rfl ?_
      exact pickT hg TreeDrawn fun t ht => ⟨n, rfl, h2, by omega, hg, h4, ht⟩
    · rw [trO_no h4]
      refine Ep.neg (by simp) ?_
      refine Ep.bind0 rfl ?_
      have h3 : dlap tri (vsL 3 0) ≤ 400 := Int.le_trans (dlap_loop (n := 3) tri_ok) (by decide)
      refine Ep.bind (P := (· = (treeL ((3 : Nat) : Int) tri, true))) ((specTrees 3 tri).mono fun r hr => hr.trans (trO_yes (n := 3) tri_ok h3)) ?_
      rintro _ rfl
      exact pickT (m := 3) tri_ok TreeDrawn fun t ht => ⟨3, rfl, by omega, by omega, tri_ok, h3, ht⟩
theorem has_l0 (l : List Int) (x : Int) (hb : l.length ≤ 1048576) : ∀ (d i : Nat), i + d = l.length → Ep (fun k => laws_has.l0 k x l (l.length : Int) (i : Int)) (· = decide (x ∈ l.drop i)) := by
  intro d
  induction d with
  | zero =>
    intro i hi
    refine Ep.up ?_
    simp only [laws_has.l0]
    refine Ep.neg (by omega) (Ep.now ?_)
    rw [List.drop_of_length_le (by omega)]
    simp
  | succ d ih =>
    intro i hi
    have h1 : i < l.length := by omega
    refine Ep.up ?_
    simp only [laws_has.l0]
    refine Ep.pos (by omega) (Ep.pos (by omega) (Ep.pos (by omega) ?_))
    rw [rd_get h1, wrap_succ (by omega), List.drop_eq_getElem_cons h1]
    refine Ep.ite (fun h => Ep.now ?_) (fun h => (ih (i + 1) (by omega)).mono ?_)
    · simp [h]
    · rintro _ rfl
      have e : ¬ x = l[i] := fun e => h e.symm
      rw [decide_eq_decide, List.mem_cons]
      exact ⟨.inr, fun y => y.resolve_left e⟩
theorem has_ok (l : List Int) (x : Int) (hb : l.length ≤ 1048576) : Ep (fun k => laws_has.f k l x) (· = decide (x ∈ l)) := by
  simp only [laws_has.f]
  simpa using has_l0 l x hb l.length 0 (by omega)
theorem brs_mem (n : Int) (es : List E) (i : Nat) : ∀ k, (i : Int) ∈ brs n es k ↔ i < k ∧ brB n es (i : Int) = true
  | 0 => ⟨fun h => absurd h List.not_mem_nil, fun h => absurd h.1 (by omega)⟩
  | k + 1 => by
    have ih := brs_mem n es i k
    rw [brs_succ]
    by_cases hb : brB n es (k : Int) = true
    · rw [if_pos hb, List.mem_append, List.mem_singleton, ih]
      constructor
      · rintro (h | h)
        · exact ⟨by omega, h.2⟩
        · obtain rfl : i = k := by omega
          exact ⟨by omega, hb⟩
      · rintro ⟨h1, h2⟩
        by_cases e : i = k
        · exact Or.inr (by omega)
        · exact Or.inl ⟨by omega, h2⟩
    · rw [if_neg hb, ih]
      constructor
      · exact fun h => ⟨by omega, h.2⟩
      · rintro ⟨h1, h2⟩
        refine ⟨?_, h2⟩
        by_cases e : i = k
        · subst e; exact absurd h2 hb
        · omega
theorem brO_mem {n : Int} {es : List E} (hg : gOk n es = true) {i : Nat} (hi : i < es.length) : decide ((i : Int) ∈ brO n es) = brB n es (i : Int) := by
  rw [Bool.eq_iff_iff, decide_eq_true_eq]
  unfold brO
  rw [if_pos hg, brs_mem]
  exact ⟨fun h => h.2, fun h => ⟨hi, h⟩⟩
theorem bridges_l1 {n : Nat} {es : List E} (hg : GOk (n : Int) es) {i : Nat} (hi : i < es.length) (hr : ∀ t ∈ treeL (n : Int) es, t.length ≤ 1048576) (hl : (treeL (n : Int) es).length ≤ 1048576)
    (hn : Ep (fun k => laws_FnBridges.l0 k (treeL (n : Int) es) (brO (n : Int) es) (es.length : Int) ((i + 1 : Nat) : Int) (n : Int) es) (· = true)) :
    ∀ (d j : Nat), j + d = (treeL (n : Int) es).length → Ep (fun k => laws_FnBridges.l1 k (treeL (n : Int) es) (brO (n : Int) es) (i : Int) (((treeL (n : Int) es).take j).all fun t => decide ((i : Int) ∈ t)) (es.length : Int) (i : Int) (treeL (n : Int) es) ((treeL (n : Int) es).length : Int) (j : Int) (n : Int) es) (· = true) := by
  have hel := hg.1.2.2.1
  intro d
  induction d with
  | zero =>
    intro j hj
    have hb := bridge_iff hg hi
    have e : (((treeL (n : Int) es).take j).all fun t => decide ((i : Int) ∈ t)) = brB (n : Int) es (i : Int) := by
      rw [List.take_of_length_le (by omega), Bool.eq_iff_iff, List.all_eq_true, hb]
      exact ⟨fun h t ht => of_decide_eq_true (h t ht), fun h t ht => decide_eq_true (h t ht)⟩
    rw [e]
    refine Ep.up ?_
    simp only [laws_FnBridges.l1]
    refine Ep.neg (by omega) (Ep.bind (implBr _ _ _) ?_)
    rintro _ rfl
    refine Ep.neg (by simp) (Ep.bind (has_ok _ _ (by have := brO_len (n : Int) es; omega)) ?_)
    rintro _ rfl
    rw [brO_mem (gOk_iff.2 hg) hi]
    refine Ep.neg (by simp) ?_
    rw [wrap_succ (by omega)]
    exact hn
  | succ d ih =>
    intro j hj
    have hlt : j < (treeL (n : Int) es).length := by omega
    have h := ih (j + 1) (by omega)
    have er : rd_L3 (treeL (n : Int) es) (j : Int) = (treeL (n : Int) es)[j] := by
      unfold rd_L3
      rw [Int.toNat_natCast, List.getD_eq_getElem?_getD, List.getElem?_eq_getElem hlt]
      rfl
    rw [List.take_succ_eq_append_getElem hlt] at h
    refine Ep.up ?_
    simp only [laws_FnBridges.l1]
    refine Ep.pos (by omega) (Ep.pos (by omega) (Ep.pos (by omega) ?_))
    rw [er, wrap_succ (by omega)]
    rw [List.all_append] at h
    by_cases c : (((treeL (n : Int) es).take j).all fun t => decide ((i : Int) ∈ t)) = true
    · rw [c] at h ⊢
      refine Ep.pos rfl (Ep.bind (has_ok _ _ (hr _ (List.getElem_mem hlt))) ?_)
      rintro _ rfl
      simp only [List.all_cons, List.all_nil, Bool.and_true, Bool.true_and] at h
      exact h
    · rw [Bool.not_eq_true] at c
      rw [c] at h ⊢
      rw [Bool.false_and] at h
      exact Ep.neg (by simp) h
theorem bridges_l0 {n : Nat} {es : List E} (hg : GOk (n : Int) es) (hr : ∀ t ∈ treeL (n : Int) es, t.length ≤ 1048576) (hl : (treeL (n : Int) es).length ≤ 1048576) :
    ∀ (d i : Nat), i + d = es.length → Ep (fun k => laws_FnBridges.l0 k (treeL (n : Int) es) (brO (n : Int) es) (es.length : Int) (i : Int) (n : Int) es) (· = true) := by
  intro d
  induction d with
  | zero =>
    intro i hi
    refine Ep.up ?_
    simp only [laws_FnBridges.l0]
    exact Ep.neg (by omega) (Ep.now rfl)
  | succ d ih =>
    intro i hi
    have h := bridges_l1 hg (i := i) (by omega) hr hl (ih (i + 1) (by omega)) (treeL (n : Int) es).length 0 (by omega)
    rw [List.take_zero, List.all_nil] at h
    refine Ep.up ?_
    simp only [laws_FnBridges.l0]
    exact Ep.pos (by omega) h
theorem law_FnBridges (l : List Int) (wl : SL (Wf .u8) l) : Ep (fun k => laws_FnBridges.f k l) (· = true) := by
  simp only [laws_FnBridges.f]
  refine Ep.ite (fun _ => Ep.now rfl) (fun hc => ?_)
  have hb : l.length ≤ 1048576 := by omega
  refine Ep.bind (makeTree l hb) ?_
  rintro ⟨n', es, t⟩ ⟨n, hn, h2, h5, hg, h4, ht⟩
  dsimp only at hn hg h4 ht ⊢
  subst hn
  have hel := hg.1.2.2.1
  have hcnt := treeL_count hg
  have hsm := treeL_small (n := (n : Int)) (es := es) hel (by omega)
  refine Ep.bind (implTrees _ _) ?_
  rintro _ rfl
  rw [trO_yes hg h4]
  refine Ep.bind (implBrs _ _) ?_
  rintro _ rfl
  refine Ep.pos rfl (Ep.up ?_)
  have hne : 0 < (treeL (n : Int) es).length := List.length_pos_iff.2 (treeL_ne hg)
  simp only [laws_FnBridges.j0]
  refine Ep.neg (by rw [beq_iff_eq]; omega) ?_
  exact bridges_l0 hg (fun s hs => by have := hsm.2 s hs; omega) (by omega) es.length 0 (by omega)
end Go.Proofs.Ytdfibdjjoplmmaa.Cf
end

section
namespace Go.Proofs.Ytdfibdjjoplmmaa.Cf
set_option linter.unusedVariables false
set_option linter.unusedSimpArgs false
open Go.RowKit Go.ChangeShapes Go.WideShapes Go.Deep Go.Joins Go.Proofs.YtdfibdjjoplmmaaW.PrintWords
section
variable {H : Type} {enc : TypeId × Value → H} {P : Program} {w : World} {base : Nat} {spare : Nat → Bool} {held : Bool}
/-- A slice, whatever its elements are, if each of them can be told. -/
theorem trod_C {α : Type} {d : Kd α} {Q : α → Prop} (hd : Inhabited α) {t e : TypeId} {fuel : Nat} {cs : List Value} {x : DataW H × List MemPlace} (ht : P.underlying t = some (.slice e)) (hsz : P.cellsOf e = d.sz)
    (hel : ∀ (n : Nat) (cs : List Value) (y : DataW H × List MemPlace), DataW.trod enc P w base spare held n e cs = some y → ∃ a : α, d.K w a cs ∧ Q a)
    (h : DataW.trod enc P w base spare held fuel t cs = some x) : ∃ A len cap xs, cs = [.slice A len cap] ∧ xs.length = len ∧ len ≤ cap ∧ Kd.C d w A len xs ∧ SL Q xs := by
  rcases open_slice ht h with ⟨rfl, _⟩ | ⟨a, len, cap, m, n, D, Pl, rfl, _, hl, hm, hmm, _, hx⟩
  · exact ⟨none, 0, 0, [], rfl, rfl, Nat.le_refl _, ⟨rfl, by omega, fun hn => by omega⟩, by simp, fun x hx => by cases hx⟩
  · have hlm : len ≤ m := by rw [hmm]; split <;> omega
    obtain ⟨X, hX⟩ := choose_lt (α := α) (n := len) (p := fun i z => Q z ∧ ∃ c, c.length = d.sz ∧ d.K w z c ∧ ∀ j u, c[j]? = some u → w.cell? (a.add (i * d.sz + j)) = some u) (fun i hi => by
      obtain ⟨cs', h1, h2⟩ := hx i (by omega)
      obtain ⟨z, hz, hq⟩ := hel n cs' _ h2
      obtain ⟨_, hlen, hc⟩ := World.cells?_some h1
      refine ⟨z, hq, cs', by rw [hlen, hsz], hz, fun j u hj => ?_⟩
      have hjl : j < cs'.length := by
        apply Classical.byContradiction
        intro hc
        rw [List.getElem?_eq_none (by omega)] at hj
        cases hj
      have := hc j (by omega)
      rw [Deep.add_add, hsz] at this
      rw [this, hj])
    refine ⟨some a, len, cap, (List.range len).map X, rfl, by simp, hl, ⟨by simp, ?_, fun _ => ⟨a, rfl, fun j p hj => ?_⟩⟩, by simp; unfold maxLen at hm; omega, fun x hx => ?_⟩
    · unfold maxLen at hm
      omega
    · have hjl : j < len := by
        apply Classical.byContradiction
        intro hc
        rw [List.getElem?_eq_none (by simp; omega)] at hj
        cases hj
      have : p = X j := by
        rw [List.getElem?_eq_getElem (by simpa using hjl)] at hj
        simpa using hj.symm
      subst this
      exact (hX j hjl).2
    · obtain ⟨i, hi, rfl⟩ := List.mem_map.1 hx
      exact (hX i (List.mem_range.1 hi)).1
theorem el_int {k : IntKind} {e : TypeId} (he : P.underlying e = some (.int k)) : ∀ (n : Nat) (cs : List Value) (y : DataW H × List MemPlace), DataW.trod enc P w base spare held n e cs = some y → ∃ a : Int, (Kd.int k).K w a cs ∧ Wf k a := by
  intro n cs y h
  obtain ⟨a, rfl, _, hw⟩ := DataW.trod_int he h
  exact ⟨a, rfl, hw⟩
/-- A slice that comes in. -/
theorem arg_slice {α : Type} {d : Kd α} {Q : α → Prop} (hd : Inhabited α) {t e : TypeId} {a : Option Addr} {len cap : Nat} {x : DataW H} {ps : List MemPlace} (ht : P.underlying t = some (.slice e)) (hsz : P.cellsOf e = d.sz)
    (hel : ∀ (n : Nat) (cs : List Value) (y : DataW H × List MemPlace), DataW.trod enc P w base spare held n e cs = some y → ∃ a : α, d.K w a cs ∧ Q a)
    (h : DataW.Trod enc P w base spare held t (.slice a len cap) x ps) : ∃ xs : List α, xs.length = len ∧ len ≤ cap ∧ Kd.C d w a len xs ∧ SL Q xs := by
  obtain ⟨fuel, hf⟩ := h
  obtain ⟨A, l, c, xs, hcs, hl, hc, hC, hq⟩ := trod_C hd ht hsz hel hf
  simp [Value.cells] at hcs
  obtain ⟨rfl, rfl, rfl⟩ := hcs
  exact ⟨xs, hl, hc, hC, hq⟩
end
end Go.Proofs.Ytdfibdjjoplmmaa.Cf
end

section
namespace Go.Proofs.Ytdfibdjjoplmmaa.Cf
theorem and2 {a b : Bool} (h : a = true) (k : b = true) : (a && b) = true := by rw [h, k]; rfl
theorem iniS : Try.prog.initOrder.toList = ['h', 'a', 'r', 'n', 'e', 's', 's', ' ', '6', '3', '0', 'a', '7', 'a', '6', '2', '8', 'c', '1', '8', '7', '8', '4', '5', '7', '2', '9', 'f', '5', '1', '3', '5', '1', 'd', '5', 'e', '4', 'e', '7', 'a', '6', 'f', '2', '0', '4', 'a', '1', '5', '9', '7', '1', '0', '6', '9', '3', '5', '5', '6', '5', '2', '2', '8', 'f', '6', 'e', '2', '7', '5', 'f', 'b', 'f', 'c', ' ', 'c', 'u', 't', ' ', 'a', 't', ' ', 'l', 'o', 'o', 'p', '.', 'e', 'x', 'a', 'm', 'p', 'l', 'e', '/', 'g', '0', '0', '8', '4', '1', '/', 'l', 'a', 'w', 's', '.', 'F', 'n', 'E', 'x', 'a', 'c', 't', 'T', 'u', 't', 't', 'e', 'O', 'f', ' ', 'l', 'o', 'o', 'p', '.', 'e', 'x', 'a', 'm', 'p', 'l', 'e', '/', 'g', '0', '0', '8', '4', '1', '/', 'l', 'a', 'w', 's', '.', 'F', 'n', 'B', 'r', 'i', 'd', 'g', 'e', 's', ' ', 'l', 'o', 'o', 'p', '.', 'e', 'x', 'a', 'm', 'p', 'l', 'e', '/', 'g', '0', '0', '8', '4', '1', '/', 'l', 'a', 'w', 's', '.', 'F', 'n', 'E', 'x', 'a', 'c', 't', 'T', 'r', 'e', 'e', 's', 'O', 'f', ' ', 'l', 'o', 'o', 'p', '.', 'e', 'x', 'a', 'm', 'p', 'l', 'e', '/', 'g', '0', '0', '8', '4', '1', '/', 'l', 'a', 'w', 's', '.', 'F', 'n', 'T', 'r', 'e', 'e', 's'] := by
  have h : Try.prog.initOrder = String.ofList ['h', 'a', 'r', 'n', 'e', 's', 's', ' ', '6', '3', '0', 'a', '7', 'a', '6', '2', '8', 'c', '1', '8', '7', '8', '4', '5', '7', '2', '9', 'f', '5', '1', '3', '5', '1', 'd', '5', 'e', '4', 'e', '7', 'a', '6', 'f', '2', '0', '4', 'a', '1', '5', '9', '7', '1', '0', '6', '9', '3', '5', '5', '6', '5', '2', '2', '8', 'f', '6', 'e', '2', '7', '5', 'f', 'b', 'f', 'c', ' ', 'c', 'u', 't', ' ', 'a', 't', ' ', 'l', 'o', 'o', 'p', '.', 'e', 'x', 'a', 'm', 'p', 'l', 'e', '/', 'g', '0', '0', '8', '4', '1', '/', 'l', 'a', 'w', 's', '.', 'F', 'n', 'E', 'x', 'a', 'c', 't', 'T', 'u', 't', 't', 'e', 'O', 'f', ' ', 'l', 'o', 'o', 'p', '.', 'e', 'x', 'a', 'm', 'p', 'l', 'e', '/', 'g', '0', '0', '8', '4', '1', '/', 'l', 'a', 'w', 's', '.', 'F', 'n', 'B', 'r', 'i', 'd', 'g', 'e', 's', ' ', 'l', 'o', 'o', 'p', '.', 'e', 'x', 'a', 'm', 'p', 'l', 'e', '/', 'g', '0', '0', '8', '4', '1', '/', 'l', 'a', 'w', 's', '.', 'F', 'n', 'E', 'x', 'a', 'c', 't', 'T', 'r', 'e', 'e', 's', 'O', 'f', ' ', 'l', 'o', 'o', 'p', '.', 'e', 'x', 'a', 'm', 'p', 'l', 'e', '/', 'g', '0', '0', '8', '4', '1', '/', 'l', 'a', 'w', 's', '.', 'F', 'n', 'T', 'r', 'e', 'e', 's'] := by kernel_rfl
  exact (congrArg String.toList h).trans String.toList_ofList
theorem iniW : behindMainWord (wordsSigns Try.prog.initOrder.toList) = [['c', 'u', 't'], ['a', 't'], ['l', 'o', 'o', 'p', '.', 'e', 'x', 'a', 'm', 'p', 'l', 'e', '/', 'g', '0', '0', '8', '4', '1', '/', 'l', 'a', 'w', 's', '.', 'F', 'n', 'E', 'x', 'a', 'c', 't', 'T', 'u', 't', 't', 'e', 'O', 'f'], ['l', 'o', 'o', 'p', '.', 'e', 'x', 'a', 'm', 'p', 'l', 'e', '/', 'g', '0', '0', '8', '4', '1', '/', 'l', 'a', 'w', 's', '.', 'F', 'n', 'B', 'r', 'i', 'd', 'g', 'e', 's'], ['l', 'o', 'o', 'p', '.', 'e', 'x', 'a', 'm', 'p', 'l', 'e', '/', 'g', '0', '0', '8', '4', '1', '/', 'l', 'a', 'w', 's', '.', 'F', 'n', 'E', 'x', 'a', 'c', 't', 'T', 'r', 'e', 'e', 's', 'O', 'f'], ['l', 'o', 'o', 'p', '.', 'e', 'x', 'a', 'm', 'p', 'l', 'e', '/', 'g', '0', '0', '8', '4', '1', '/', 'l', 'a', 'w', 's', '.', 'F', 'n', 'T', 'r', 'e', 'e', 's']] := (congrArg (fun x => behindMainWord (wordsSigns x)) iniS).trans (by kernel_rfl)
theorem mk_cut {P : Program} {r : List (List Char)} (h : behindMainWord (wordsSigns P.initOrder.toList) = ['c', 'u', 't'] :: r) : P.make = some .cut := by
  unfold Program.make
  rw [h]
  rfl
theorem lf_cut {P : Program} {r : List (List Char)} (h : behindMainWord (wordsSigns P.initOrder.toList) = ['c', 'u', 't'] :: r) (k : (stripLifts liftWords (['c', 'u', 't'] :: r)).1 = []) : P.liftsFinal = false := by
  unfold Program.liftsFinal Program.headLifts
  rw [h]
  simp [k]
theorem en_cut {P : Program} {r : List (List Char)} (h : behindMainWord (wordsSigns P.initOrder.toList) = ['c', 'u', 't'] :: r) (k1 : (stripLifts liftWords (['c', 'u', 't'] :: r)).1 = []) (k2 : ((stripLifts liftWords (['c', 'u', 't'] :: r)).2.head? == some "cut".toList) = true) (h1 : P.laysLater = false) (h2 : P.bearsReflect = false) (h3 : P.doorFits [] = true) : P.mayEnter = true := by
  unfold Program.mayEnter
  rw [h]
  simp only [k1, k2, h1, h2, h3]
  simp
theorem make : Try.prog.make = some .cut := mk_cut iniW
theorem lifted : Try.prog.liftsFinal = false := lf_cut iniW (by kernel_rfl)
theorem enter : Try.prog.mayEnter = true := en_cut iniW (by kernel_rfl) (by kernel_rfl) (by kernel_rfl) (by kernel_rfl) (by kernel_rfl)
end Go.Proofs.Ytdfibdjjoplmmaa.Cf
end

