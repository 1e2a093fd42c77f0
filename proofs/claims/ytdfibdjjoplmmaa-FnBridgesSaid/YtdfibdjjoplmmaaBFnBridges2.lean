/- A part of the proof of FnBridges. -/
import Derived.Test.YtdfibdjjoplmmaaBFnBridges1
import Derived.Test.YtdfibdjjoplmmaaBFnBridges0
import Derived.Test.YtdfibdjjoplmmaaBFnBridgesWWords
import Derived.Test.YtdfibdjjoplmmaaBFnBridgesWMore
import Derived.Laws.BitsLemmas
import Derived.StillTailTactics
section
namespace Go.Proofs.Ytdfibdjjoplmmaa.P
open Go.RowKit Go.Proofs.YtdfibdjjoplmmaaW.PrintWords Go.Proofs.YtdfibdjjoplmmaaW.PrintLast Go.Proofs.YtdfibdjjoplmmaaW.PrintMore
attribute [local go_sem] max2_int min2_int max_two min_two max_three min_three max_four min_four
set_option linter.unusedVariables false
set_option linter.unusedSimpArgs false
mutual
def spec_l02Draw.l0 : Nat → Int → Int → List Int → Int → Int → Int → List (S67) → Option (Int × (List (S67)) × Int × Int)
 | 0, _, _, _, _, _, _, _ => none
 | k + 1, x6, x7, x1000, x1001, x1002, x103000, x103001 => if x7 < x6 then ((spec_l01Below.f x1000 x1001 x1002 x7).bind fun bt106 => (if x103001.length < 8796093022208 then (spec_l02Draw.l0 k x6 (wrap64 (x7 + 1)) x1000 bt106.2.1 bt106.2.2 (wrap64 (x7 + 1)) (x103001 ++ [(⟨bt106.1, x7⟩ : S67)])) else (none))) else (spec_l02Draw.l1 k x6 0 x1000 x1001 x1002 x103000 x103001 x6 ([] : List (S67)))
def spec_l02Draw.l1 : Nat → Int → Int → List Int → Int → Int → Int → List (S67) → Int → List (S67) → Option (Int × (List (S67)) × Int × Int)
 | 0, _, _, _, _, _, _, _, _, _ => none
 | k + 1, x6, x10, x1000, x1001, x1002, x103000, x103001, x114000, x114001 => if x10 < x6 then (spec_l02Draw.l2 k x6 x10 (wrap64 (x10 + 1)) x1000 x1001 x1002 x103000 x103001 x114000 x114001) else ((spec_l01Below.f x1000 x1001 x1002 5).bind fun bt118 => (spec_l02Draw.l4 k x6 bt118.1 x1000 bt118.2.1 bt118.2.2 x114000 x114001))
def spec_l02Draw.l2 : Nat → Int → Int → Int → List Int → Int → Int → Int → List (S67) → Int → List (S67) → Option (Int × (List (S67)) × Int × Int)
 | 0, _, _, _, _, _, _, _, _, _, _ => none
 | k + 1, x6, x10, x11, x1000, x1001, x1002, x103000, x103001, x114000, x114001 => if x11 < x6 then ((spec_Multiplicity.f k x103000 x103001 x10 x11).bind fun t114 => (spec_l02Draw.l3 k x6 x10 x11 t114 x1000 x1001 x1002 x103000 x103001 x114000 x114001)) else (spec_l02Draw.l1 k x6 (wrap64 (x10 + 1)) x1000 x1001 x1002 x103000 x103001 x114000 x114001)
def spec_l02Draw.l3 : Nat → Int → Int → Int → Int → List Int → Int → Int → Int → List (S67) → Int → List (S67) → Option (Int × (List (S67)) × Int × Int)
 | 0, _, _, _, _, _, _, _, _, _, _, _ => none
 | k + 1, x6, x10, x11, x12, x1000, x1001, x1002, x103000, x103001, x114000, x114001 => if x12 > 0 then (if x114001.length < 8796093022208 then (spec_l02Draw.l3 k x6 x10 x11 (wrap64 (x12 - 1)) x1000 x1001 x1002 x103000 x103001 x114000 (x114001 ++ [(⟨x10, x11⟩ : S67)])) else (none)) else (spec_l02Draw.l2 k x6 x10 (wrap64 (x11 + 1)) x1000 x1001 x1002 x103000 x103001 x114000 x114001)
def spec_l02Draw.l4 : Nat → Int → Int → List Int → Int → Int → Int → List (S67) → Option (Int × (List (S67)) × Int × Int)
 | 0, _, _, _, _, _, _, _ => none
 | k + 1, x6, x13, x1000, x1001, x1002, x114000, x114001 => if x13 > 0 then ((spec_l01Below.f x1000 x1001 x1002 x6).bind fun bt121 => ((spec_l01Below.f x1000 bt121.2.1 bt121.2.2 (wrap64 (x6 - 1))).bind fun bt124 => (if x6 = 0 then (none) else ((spec_AddEdge.f k x114000 x114001 bt121.1 (Int.tmod (wrap64 ((wrap64 (bt121.1 + 1)) + bt124.1)) x6)).bind fun bt127 => (if bt127.2.2 = true then (spec_l02Draw.l4 k x6 (wrap64 (x13 - 1)) x1000 bt124.2.1 bt124.2.2 bt127.1 bt127.2.1) else (spec_l02Draw.l4 k x6 (wrap64 (x13 - 1)) x1000 bt124.2.1 bt124.2.2 x114000 x114001)))))) else (some (x114000, x114001, x1001, x1002))
end
def spec_l02Draw.f (k : Nat) (s0_0 : List Int) (s0_1 : Int) (s0_2 : Int) (a1 : Int) : Option (Int × (List (S67)) × Int × Int) := (spec_l01Below.f s0_0 s0_1 s0_2 (wrap64 (a1 - 1))).bind fun bt103 => (spec_l02Draw.l0 k (wrap64 (2 + bt103.1)) 1 s0_0 bt103.2.1 bt103.2.2 1 ([] : List (S67)))
theorem spec_l02Draw.mono_l : ∀ k, (∀ y0 y1 y2 y3 y4 y5 y6, LeO (spec_l02Draw.l0 k y0 y1 y2 y3 y4 y5 y6) (spec_l02Draw.l0 (k + 1) y0 y1 y2 y3 y4 y5 y6)) ∧ (∀ y0 y1 y2 y3 y4 y5 y6 y7 y8, LeO (spec_l02Draw.l1 k y0 y1 y2 y3 y4 y5 y6 y7 y8) (spec_l02Draw.l1 (k + 1) y0 y1 y2 y3 y4 y5 y6 y7 y8)) ∧ (∀ y0 y1 y2 y3 y4 y5 y6 y7 y8 y9, LeO (spec_l02Draw.l2 k y0 y1 y2 y3 y4 y5 y6 y7 y8 y9) (spec_l02Draw.l2 (k + 1) y0 y1 y2 y3 y4 y5 y6 y7 y8 y9)) ∧ (∀ y0 y1 y2 y3 y4 y5 y6 y7 y8 y9 y10, LeO (spec_l02Draw.l3 k y0 y1 y2 y3 y4 y5 y6 y7 y8 y9 y10) (spec_l02Draw.l3 (k + 1) y0 y1 y2 y3 y4 y5 y6 y7 y8 y9 y10)) ∧ (∀ y0 y1 y2 y3 y4 y5 y6, LeO (spec_l02Draw.l4 k y0 y1 y2 y3 y4 y5 y6) (spec_l02Draw.l4 (k + 1) y0 y1 y2 y3 y4 y5 y6))
 | 0 => ⟨fun _ _ _ _ _ _ _ r h => by simp [spec_l02Draw.l0] at h, fun _ _ _ _ _ _ _ _ _ r h => by simp [spec_l02Draw.l1] at h, fun _ _ _ _ _ _ _ _ _ _ r h => by simp [spec_l02Draw.l2] at h, fun _ _ _ _ _ _ _ _ _ _ _ r h => by simp [spec_l02Draw.l3] at h, fun _ _ _ _ _ _ _ r h => by simp [spec_l02Draw.l4] at h⟩
 | k + 1 => by
  obtain ⟨ih0, ih1, ih2, ih3, ih4⟩ := spec_l02Draw.mono_l k
  refine ⟨?_, ?_, ?_, ?_, ?_⟩
  ·intro y0 y1 y2 y3 y4 y5 y6
   unfold spec_l02Draw.l0
   exact zm2
  ·intro y0 y1 y2 y3 y4 y5 y6 y7 y8
   unfold spec_l02Draw.l1
   exact zm2
  ·intro y0 y1 y2 y3 y4 y5 y6 y7 y8 y9
   unfold spec_l02Draw.l2
   exact zm2
  ·intro y0 y1 y2 y3 y4 y5 y6 y7 y8 y9 y10
   unfold spec_l02Draw.l3
   exact zm2
  ·intro y0 y1 y2 y3 y4 y5 y6
   unfold spec_l02Draw.l4
   exact zm2
theorem spec_l02Draw.mono : ∀ a0 a1 a2 a3 k, LeO (spec_l02Draw.f k a0 a1 a2 a3) (spec_l02Draw.f (k + 1) a0 a1 a2 a3) := by
 intro a0 a1 a2 a3 k; obtain ⟨ih0, ih1, ih2, ih3, ih4⟩ := spec_l02Draw.mono_l k; unfold spec_l02Draw.f; exact zm2
def spec_l02Draw.T24 : Bool × List (List Nat × List Nat) := (true, [([], []), ([], []), ([], []), ([2], [2]), ([], []), ([], []), ([5], [5]), ([4, 6], [4, 6]), ([3, 7], [3, 7]), ([], []), ([8, 9], [8, 9]), ([0, 1, 10, 7], [0, 1, 10]), ([11], [11]), ([12], [12]), ([12], [12]), ([], []), ([15, 13, 11, 0, 1, 2, 3, 4, 5, 6, 7, 8, 9, 10, 11, 12, 13, 15], [13, 15]), ([14, 16, 0, 1, 2, 3, 4, 5, 6, 7, 8, 9, 10, 11, 12, 13, 14, 15, 16], [14])])
def spec_l02Draw.B24 : List Nat := [0, 0, 0, 4, 0, 0, 32, 112, 252, 0, 1020, 2047, 4095, 8191, 8191, 0, 49151, 131071]
theorem spec_l02Draw.tab24 : rtab .any (opsOf Try.f71 24) = spec_l02Draw.T24 := by kernel_rfl
theorem spec_l02Draw.bits24 : waitsOk spec_l02Draw.T24.2 spec_l02Draw.B24 = true := by kernel_rfl
theorem spec_l02Draw.same_ {w0 W W1 : World} {g : Nat} {f0 : List Int} {f1 f2 : Int} (_ : IsS93 w0 W g f0 f1 f2) (k : IsS93 w0 W1 g f0 f1 f2) : IsS93 w0 W1 g f0 f1 f2 := k
set_option maxHeartbeats 8000000 in
set_option maxRecDepth 100000 in
theorem spec_l02Draw.calls (k : Nat) (g : Nat) (s0_0 : List Int) (s0_1 : Int) (s0_2 : Int) (a1 : Int) (r1 : Int) (r2 : List (S67)) (r3 : Int) (r4 : Int) (w0 w : World) (hI : IsS93 w0 w g s0_0 s0_1 s0_2) (hB : Below w0.heap.size w0 w) (h : spec_l02Draw.f k s0_0 s0_1 s0_2 a1 = some (r1, r2, r3, r4)) :
  Calls Try.prog 71 #[.pointer (some ⟨g, 0, none⟩), .int .i64 a1] w fun e w' => ∃ v1_ : Value, e = .returned (.agg #[.int .i64 r1, v1_]) ∧ Kd.R k67 67 w' w.heap.size (fun _ => True) v1_ r2 ∧ IsS93 w0 w' g s0_0 r3 r4 ∧ Below w0.heap.size w0 w' ∧ KeepBut w w' g none := by
 have hu31 := Try.underlying31; have hu67 := Try.underlying67; have HI0 := Aside0.mk hI; have HK := Aside0.mk (KeepBut.refl w g none); have HL := Aside0.mk hB.size; clear hI; have HW0 := Aside0.mk hB.size; have HB := Aside0.mk hB; clear hB; have H : ((spec_l01Below.f s0_0 s0_1 s0_2 (wrap64 (a1 - 1))).bind fun bt103 => (spec_l02Draw.l0 k (wrap64 (2 + bt103.1)) 1 s0_0 bt103.2.1 bt103.2.2 1 ([] : List (S67)))) = some (r1, r2, r3, r4) := h; clear h; replace H := Option.bind_eq_some_iff.mp H; obtain ⟨⟨t103, t104, t105⟩, A30, H⟩ := H; dsimp only at H; have A3 := Aside0.mk A30; clear A30; have H' := Aside0.mk H; clear H; go_enter Try.func71, Try.ntmps71; (go_wp2_with (first | ((with_reducible refine gate_dst (N := 4) rfl ?_); refine box_event ?hg (N := 4) ?hd (cs := #[.int .i64 0, .slice none 0 0]) (t := 31) ?hr ?_; (case hd => rfl); (case hg => rfl); (case hr => exact zz18); intro gb101 hg w4 hbox hb; have n_ := zA8 (IsS93.below (by first | (refine spec_l02Draw.same_ HI0.out ?_; (repeat (first | (with_reducible first | exact HI0.out | apply IsS93.alloc | apply IsS93.drewN | apply IsS93.drew | apply IsS93.set_1 | apply IsS93.set_2) | exact HI0.out)); first | done | exact HI0.out) | (repeat (first | (with_reducible first | exact HI0.out | apply IsS93.alloc | apply IsS93.drewN | apply IsS93.drew | apply IsS93.set_1 | apply IsS93.set_2) | exact HI0.out))) hb) (KeepBut.trans zz46 (KeepBut.of_below hb g none) (.inl rfl)) (below_step zz80 hb) hbox (by rw [hg]; exact (keep_size (w := w) (g := g) (row := none) zz46) : w.heap.size ≤ gb101) (Nat.le_trans HW0.out (by rw [hg]; exact (keep_size (w := w) (g := g) (row := none) zz46) : w.heap.size ≤ gb101) : w0.heap.size ≤ gb101) (by rw [hg]; exact Nat.ne_of_lt (IsS93.lt (show IsS93 w0 _ g s0_0 s0_1 s0_2 from by repeat (first | (with_reducible first | exact HI0.out | apply IsS93.alloc | apply IsS93.drewN | apply IsS93.drew | apply IsS93.set_1 | apply IsS93.set_2) | exact HI0.out))) : g ≠ gb101) (by rw [hg]; exact Nat.ne_of_gt (IsS93.lt (show IsS93 w0 _ g s0_0 s0_1 s0_2 from by repeat (first | (with_reducible first | exact HI0.out | apply IsS93.alloc | apply IsS93.drewN | apply IsS93.drew | apply IsS93.set_1 | apply IsS93.set_2) | exact HI0.out))) : gb101 ≠ g); clear HI0 HK HB; obtain ⟨HI0, HK, HB, BK101, GW101, GE101, NB0_101, NB101_0⟩ := n_; clear hb hbox hg) | ((with_reducible refine gate_dst (N := 5) rfl ?_); refine box_event ?hg (N := 5) ?hd (cs := #[.int .i64 0, .slice none 0 0]) (t := 31) ?hr ?_; (case hd => rfl); (case hg => rfl); (case hr => exact zz18); intro gb102 hg w5 hbox hb; have n_ := zA11 (IsS93.below (by first | (refine spec_l02Draw.same_ HI0.out ?_; (repeat (first | (with_reducible first | exact HI0.out | apply IsS93.alloc | apply IsS93.drewN | apply IsS93.drew | apply IsS93.set_1 | apply IsS93.set_2 | refine IsS93.far ?_ NB0_101.out _) | exact HI0.out)); first | done | exact HI0.out) | (repeat (first | (with_reducible first | exact HI0.out | apply IsS93.alloc | apply IsS93.drewN | apply IsS93.drew | apply IsS93.set_1 | apply IsS93.set_2 | refine IsS93.far ?_ NB0_101.out _) | exact HI0.out))) hb) (blk_below (g := gb101) (o := .cells #[.int .i64 0, .slice none 0 0] 31 (0, 0)) zz0 hb) (KeepBut.trans zz75 (KeepBut.of_below hb g none) (.inl rfl)) (below_step (by repeat (first | (with_reducible first | exact HB.out | apply below_alloc | apply pw_below_drewN | apply below_drew1 | refine below_set ?_ (IsS93.ge HI0.out) | refine below_set ?_ GE101.out) | exact HB.out)) hb) hbox (by rw [hg]; exact (keep_size (w := w) (g := g) (row := none) zz75) : w.heap.size ≤ gb102) (Nat.le_trans HW0.out (by rw [hg]; exact (keep_size (w := w) (g := g) (row := none) zz75) : w.heap.size ≤ gb102) : w0.heap.size ≤ gb102) (zz51 : gb101 ≠ gb102) (zz52 : gb102 ≠ gb101) (by rw [hg]; exact Nat.ne_of_lt (IsS93.lt (show IsS93 w0 _ g s0_0 s0_1 s0_2 from by repeat (first | (with_reducible first | exact HI0.out | apply IsS93.alloc | apply IsS93.drewN | apply IsS93.drew | apply IsS93.set_1 | apply IsS93.set_2 | refine IsS93.far ?_ NB0_101.out _) | exact HI0.out))) : g ≠ gb102) (by rw [hg]; exact Nat.ne_of_gt (IsS93.lt (show IsS93 w0 _ g s0_0 s0_1 s0_2 from by repeat (first | (with_reducible first | exact HI0.out | apply IsS93.alloc | apply IsS93.drewN | apply IsS93.drew | apply IsS93.set_1 | apply IsS93.set_2 | refine IsS93.far ?_ NB0_101.out _) | exact HI0.out))) : gb102 ≠ g); clear HI0 BK101 HK HB; obtain ⟨HI0, BK101, HK, HB, BK102, GW102, GE102, NB101_102, NB102_101, NB0_102, NB102_0⟩ := n_; clear hb hbox hg; have hnb6 := NB102_101.out; have hnc6 := NB101_102.out; have hnb7 := NB102_0.out; have hnc7 := NB0_102.out; have hcz8_0 := zC20 BK102; have hcz8_1 := zC21 BK102; have hfz8_0 := blk_frozen BK102.out 0; have hfz8_1 := blk_frozen BK102.out 1) | ((with_reducible refine gate_callee (f := 43) rfl ?_); refine goesL_ (some 21) rfl rfl Try.func43 (by kernel_rfl) rfl #[.pointer (some ⟨g, 0, none⟩), .int .i64 (wrap64 (a1 - 1))] rfl zz3 ?_; (with_reducible refine (spec_l01Below.calls g s0_0 s0_1 s0_2 (wrap64 (a1 - 1)) t103 t104 t105 w0 _ ?side1 ?side2 A3.out).mono ?_); (case side1 => repeat (first | (with_reducible first | exact HI0.out | apply IsS93.alloc | apply IsS93.drewN | apply IsS93.drew | apply IsS93.set_1 | apply IsS93.set_2 | refine IsS93.far ?_ NB0_101.out _ | refine IsS93.far ?_ NB0_102.out _) | exact HI0.out)); (case side2 => repeat (first | (with_reducible first | exact HB.out | apply below_alloc | apply pw_below_drewN | apply below_drew1 | refine below_set ?_ (IsS93.ge HI0.out) | refine below_set ?_ GE101.out | refine below_set ?_ GE102.out) | exact HB.out)); rintro e w9 ⟨rfl, hi, hb, hk⟩; refine ⟨_, rfl, ?_⟩; have n_ := zA5 (KeepBut.blk hk (g' := gb101) (o := .cells #[.int .i64 0, .slice none 0 0] 31 (0, 0)) (by (with_reducible repeat (first | refine blk_drewN ?_ _ | refine blk_drew ?_ | refine blk_alloc ?_ _)); refine blk_far ?_ NB101_102.out _; (with_reducible repeat (first | refine blk_drewN ?_ _ | refine blk_drew ?_ | refine blk_alloc ?_ _)); refine blk_far ?_ NB101_102.out _; (with_reducible repeat (first | refine blk_drewN ?_ _ | refine blk_drew ?_ | refine blk_alloc ?_ _)); exact BK101.out) NB101_0.out (by simp)) (KeepBut.blk hk (g' := gb102) (o := .cells #[.int .i64 1, .slice none 0 0] 31 (0, 0)) (by (with_reducible repeat (first | refine blk_drewN ?_ _ | refine blk_drew ?_ | refine blk_alloc ?_ _)); refine blk_put (cs := #[.int .i64 1, .slice none 0 0]) ?_ 1 _ rfl; (with_reducible repeat (first | refine blk_drewN ?_ _ | refine blk_drew ?_ | refine blk_alloc ?_ _)); refine blk_put (cs := #[.int .i64 0, .slice none 0 0]) ?_ 0 _ rfl; (with_reducible repeat (first | refine blk_drewN ?_ _ | refine blk_drew ?_ | refine blk_alloc ?_ _)); exact BK102.out) NB102_0.out (by simp)) (KeepBut.trans zz45 hk (.inl rfl)) hb hi; clear BK101 BK102 HK HB HI0; obtain ⟨BK101, BK102, HK, HB, HI0⟩ := n_; clear hi hb hk))); (go_loopg [7] k (fun kq v7 w' => ∃ (x7_1 : Int) (x1001_1 : Int) (x1002_1 : Int) (x103000_1 : Int) (x103001_1 : List (S67)) (u103001 : Value), v7 = .int .i64 x7_1 ∧ Aside0 (spec_l02Draw.l0 kq (wrap64 (2 + t103)) x7_1 s0_0 x1001_1 x1002_1 x103000_1 x103001_1 = some (r1, r2, r3, r4)) ∧ Aside0 (kq ≤ k) ∧ Aside0 (Kd.R k67 67 w' w.heap.size (fun _ => True) u103001 x103001_1) ∧ Aside0 (w'.heap[gb101]? = some (.cells #[.int .i64 0, (.slice none 0 0)] 31 (0, 0))) ∧ Aside0 (w'.heap[gb102]? = some (.cells #[.int .i64 x103000_1, u103001] 31 (0, 0))) ∧ Aside0 (IsS93 w0 w' g s0_0 x1001_1 x1002_1) ∧ Aside0 (KeepBut w w' g none) ∧ Aside0 (Below w0.heap.size w0 w'))); case atStart => exact ⟨(1), (t104), (t105), (1), (([] : List (S67))), (.slice none 0 0), zz7, H', ⟨Nat.le_refl _⟩, ⟨zz47⟩, ⟨zz0⟩, ⟨zz5⟩, ⟨by repeat (first | (with_reducible first | exact HI0.out | apply IsS93.alloc | apply IsS93.drewN | apply IsS93.drew | apply IsS93.set_1 | apply IsS93.set_2 | refine IsS93.far ?_ NB0_101.out _ | refine IsS93.far ?_ NB0_102.out _) | exact HI0.out)⟩, ⟨by repeat (first | (with_reducible first | exact HK.out | apply KeepBut.set_ | apply keep_drewN | apply keep_drew | apply keep_alloc | refine keep_far ?_ GW101.out _ | refine keep_far ?_ GW102.out _) | exact HK.out)⟩, ⟨by repeat (first | (with_reducible first | exact HB.out | apply below_alloc | apply pw_below_drewN | apply below_drew1 | refine below_set ?_ (IsS93.ge HI0.out) | refine below_set ?_ GE101.out | refine below_set ?_ GE102.out) | exact HB.out)⟩⟩
 case round =>
  clear H'; (try clear p2); (try clear c4); (try clear c6); (try clear p6); (try clear c7); (try clear hcz8_0); (try clear hcz8_1); (try clear hfz8_0); (try clear hfz8_1); obtain ⟨x7_1, x1001_1, x1002_1, x103000_1, x103001_1, u103001, rfl, HA, HK1, HO_103001, BK101, BK102, HI0, HK, HB⟩ := hrel
  cases gk with
  | zero => exact absurd HA.out (by simp [spec_l02Draw.l0])
  | succ k1 =>
   have H := HA.out; clear HA; simp only [spec_l02Draw.l0] at H; by_cases c10 : x7_1 < (wrap64 (2 + t103))
   ·rw [if_pos c10] at H; have c10b0 := decide_eq_true c10; clear c10; replace H := Option.bind_eq_some_iff.mp H; obtain ⟨⟨t106, t107, t108⟩, A110, H⟩ := H; dsimp only at H; have A11 := Aside0.mk A110; clear A110; by_cases c12 : x103001_1.length < 8796093022208; rotate_left
    ·rw [if_neg c12] at H; exact absurd H (by simp)
    rw [if_pos c12] at H; have LMc12 := Aside0.mk c12; clear c12; obtain ⟨y110, hy_⟩ : ∃ y_ : List (S67), y_ = (x103001_1 ++ [(⟨t106, x7_1⟩ : S67)]) := ⟨_, rfl⟩; (replace H : (spec_l02Draw.l0 k1 (wrap64 (2 + t103)) (wrap64 (x7_1 + 1)) s0_0 t107 t108 (wrap64 (x7_1 + 1)) y110) = some (r1, r2, r3, r4) := zzY); have Ny110 := Aside0.mk hy_; clear hy_; have H' := Aside0.mk H; clear H; have hnb13 := NB102_101.out; have hnc13 := NB101_102.out; have hnb14 := NB102_0.out; have hnc14 := NB0_102.out; have hcz15_0 := zC20 BK102; have hcz15_1 := zC21 BK102; have hfz15_0 := blk_frozen BK102.out 0; have hfz15_1 := blk_frozen BK102.out 1; (go_wp2_with (first | ((with_reducible refine gate_callee (f := 43) rfl ?_); refine goesL_ (some 33) rfl rfl Try.func43 (by kernel_rfl) rfl #[.pointer (some ⟨g, 0, none⟩), .int .i64 x7_1] rfl zz3 ?_; (with_reducible refine (spec_l01Below.calls g s0_0 x1001_1 x1002_1 x7_1 t106 t107 t108 w0 _ ?side1 ?side2 A11.out).mono ?_); (case side1 => repeat (first | (with_reducible first | exact HI0.out | apply IsS93.alloc | apply IsS93.drewN | apply IsS93.drew | apply IsS93.set_1 | apply IsS93.set_2 | refine IsS93.far ?_ NB0_101.out _ | refine IsS93.far ?_ NB0_102.out _) | exact HI0.out)); (case side2 => repeat (first | (with_reducible first | exact HB.out | apply below_alloc | apply pw_below_drewN | apply below_drew1 | refine below_set ?_ (IsS93.ge HI0.out) | refine below_set ?_ GE101.out | refine below_set ?_ GE102.out) | exact HB.out)); rintro e w16 ⟨rfl, hi, hb, hk⟩; refine ⟨_, rfl, ?_⟩; have n_ := zA6 (Kd.R_mono (Kd.R_keep (IsS93.apart (show IsS93 w0 _ g s0_0 x1001_1 x1002_1 from by repeat (first | (with_reducible first | exact HI0.out | apply IsS93.alloc | apply IsS93.drewN | apply IsS93.drew | apply IsS93.set_1 | apply IsS93.set_2 | refine IsS93.far ?_ NB0_101.out _ | refine IsS93.far ?_ NB0_102.out _) | exact HI0.out)) (by (with_reducible repeat (first | apply Kd.R_alloc | apply Kd.R_drewN | apply Kd.R_drew)); exact (Kd.R_mono (Kd.R_far (p := ⟨gb102, 0, none⟩) (Kd.R_types HO_103001.out BK102.out (by decide)) (fun _ hk => hk.2) (.int .i64 (wrap64 (x7_1 + 1)))) (fun _ h_ => h_.1))) (by decide)) hk (fun _ h => h.2)) (fun _ h => h.1)) (KeepBut.blk hk (g' := gb101) (o := .cells #[.int .i64 0, .slice none 0 0] 31 (0, 0)) (by (with_reducible repeat (first | refine blk_drewN ?_ _ | refine blk_drew ?_ | refine blk_alloc ?_ _)); refine blk_far ?_ NB101_102.out _; (with_reducible repeat (first | refine blk_drewN ?_ _ | refine blk_drew ?_ | refine blk_alloc ?_ _)); exact BK101.out) NB101_0.out (by simp)) (KeepBut.blk hk (g' := gb102) (o := .cells #[.int .i64 (wrap64 (x7_1 + 1)), u103001] 31 (0, 0)) (by (with_reducible repeat (first | refine blk_drewN ?_ _ | refine blk_drew ?_ | refine blk_alloc ?_ _)); refine blk_put (cs := #[.int .i64 x103000_1, u103001]) ?_ 0 _ rfl; (with_reducible repeat (first | refine blk_drewN ?_ _ | refine blk_drew ?_ | refine blk_alloc ?_ _)); exact BK102.out) NB102_0.out (by simp)) (KeepBut.trans zz45 hk (.inl rfl)) hb hi; clear HO_103001 BK101 BK102 HK HB HI0; obtain ⟨HO_103001, BK101, BK102, HK, HB, HI0⟩ := n_; clear hi hb hk) | ((with_reducible refine gate_dst (N := 8) rfl ?_); refine box_event ?hg (N := 8) ?hd (cs := #[.int .i64 0, .int .i64 0]) (t := 67) ?hr ?_; (case hd => rfl); (case hg => rfl); (case hr => exact zz18); intro gb109 hg w17 hbox hb; have n_ := zA15 (Kd.R_below (Kd.R_elderB zz24 gb109 (Nat.le_of_eq hg.symm)) hb) (blk_below (g := gb101) (o := .cells #[.int .i64 0, .slice none 0 0] 31 (0, 0)) zz0 hb) (blk_below (g := gb102) (o := .cells #[.int .i64 (wrap64 (x7_1 + 1)), u103001] 31 (0, 0)) zz5 hb) (IsS93.below zz92 hb) (KeepBut.trans zz45 (KeepBut.of_below hb g none) (.inl rfl)) (below_step (by repeat (first | (with_reducible first | exact HB.out | apply below_alloc | apply pw_below_drewN | apply below_drew1 | refine below_set ?_ (IsS93.ge HI0.out) | refine below_set ?_ GE101.out | refine below_set ?_ GE102.out) | exact HB.out)) hb) hbox (by rw [hg]; exact (keep_size (w := w) (g := g) (row := none) zz45) : w.heap.size ≤ gb109) (Nat.le_trans HW0.out (by rw [hg]; exact (keep_size (w := w) (g := g) (row := none) zz45) : w.heap.size ≤ gb109) : w0.heap.size ≤ gb109) (zz51 : gb101 ≠ gb109) (zz52 : gb109 ≠ gb101) (by rw [hg]; exact Nat.ne_of_lt (blk_lt (g := gb102) (o := .cells #[.int .i64 (wrap64 (x7_1 + 1)), u103001] 31 (0, 0)) zz5) : gb102 ≠ gb109) (by rw [hg]; exact Nat.ne_of_gt (blk_lt (g := gb102) (o := .cells #[.int .i64 (wrap64 (x7_1 + 1)), u103001] 31 (0, 0)) zz5) : gb109 ≠ gb102) (by rw [hg]; exact Nat.ne_of_lt (IsS93.lt (show IsS93 w0 _ g s0_0 t107 t108 from by repeat (first | (with_reducible first | exact HI0.out | apply IsS93.alloc | apply IsS93.drewN | apply IsS93.drew | apply IsS93.set_1 | apply IsS93.set_2 | refine IsS93.far ?_ NB0_101.out _ | refine IsS93.far ?_ NB0_102.out _) | exact HI0.out))) : g ≠ gb109) (by rw [hg]; exact Nat.ne_of_gt (IsS93.lt (show IsS93 w0 _ g s0_0 t107 t108 from by repeat (first | (with_reducible first | exact HI0.out | apply IsS93.alloc | apply IsS93.drewN | apply IsS93.drew | apply IsS93.set_1 | apply IsS93.set_2 | refine IsS93.far ?_ NB0_101.out _ | refine IsS93.far ?_ NB0_102.out _) | exact HI0.out))) : gb109 ≠ g); clear HO_103001 BK101 BK102 HI0 HK HB; obtain ⟨HO_103001, BK101, BK102, HI0, HK, HB, BK109, GW109, GE109, NB101_109, NB109_101, NB102_109, NB109_102, NB0_109, NB109_0⟩ := n_; clear hb hbox hg; have hnb18 := NB109_101.out; have hnc18 := NB101_109.out; have hnb19 := NB109_102.out; have hnc19 := NB102_109.out; have hnb20 := NB109_0.out; have hnc20 := NB0_109.out; have hcz21_0 := zC20 BK109; have hcz21_1 := zC21 BK109; have hfz21_0 := blk_frozen BK109.out 0; have hfz21_1 := blk_frozen BK109.out 1; have hcz22_0 := zC20 BK102; have hcz22_1 := zC21 BK102; have hfz22_0 := blk_frozen BK102.out 0; have hfz22_1 := blk_frozen BK102.out 1) | ((with_reducible refine gate_builtin (b := .append) (xs := #[.tmp 37, .tmp 39]) rfl ?_); at_builtin; refine Kd.R_append k67 w.heap.size rfl (.tmp 37) (.tmp 39) 29 67 (.agg #[(.int .i64 0), (.int .i64 0)]) 16 rfl Try.underlying29 info67 rfl (by decide) (by omega) u103001 x103001_1 (⟨t106, x7_1⟩ : S67) [.int .i64 t106, .int .i64 x7_1] (fun k_ => k_ ≠ gb109) (fun _ => False) rfl (by first | (go_simp; done) | (go_simp; rfl)) ?aP (fun _ hk => hk.elim) ?aF ?aO (Below.refl _ _) ?aS ?aL ?_; (case aP => exact k67_mkM _ _ _ (⟨t106, x7_1⟩ : S67)); (case aF => exact (fun k_ hk => Kd.freshB (g := gb109) (o := .cells #[.int .i64 t106, .int .i64 x7_1] 67 (0, 0)) zz112 k_ hk)); (case aO => exact (by (with_reducible repeat (first | apply Kd.R_alloc | apply Kd.R_drewN | apply Kd.R_drew)); exact Kd.R_mono (Kd.R_far (p := ⟨gb109, 1, none⟩) (Kd.R_far (p := ⟨gb109, 0, none⟩) (Kd.R_mono HO_103001.out (fun k_ hk => (⟨hk, hk.2⟩ : _ ∧ k_ ≠ gb109))) (fun _ hk => hk.2) (.int .i64 t106)) (fun _ hk => hk.2) (.int .i64 x7_1)) (fun _ hk => hk.1.2))); (case aS => exact (keep_size (w := w) (g := g) (row := none) (by repeat (first | (with_reducible first | exact HK.out | apply KeepBut.set_ | apply keep_drewN | apply keep_drew | apply keep_alloc | refine keep_far ?_ GW101.out _ | refine keep_far ?_ GW102.out _ | refine keep_far ?_ GW109.out _) | exact HK.out)))); (case aL => have := LMc12.out; omega); intro v111 w23 ho hb hg hat; rw [← Ny110.out] at ho; have n_ := zA7 (blk_grown (g := gb101) (o := .cells #[.int .i64 0, .slice none 0 0] 31 (0, 0)) zz26 hg (Kd.R_ne HO_103001.out BK101.out (by decide))) (blk_grown (g := gb102) (o := .cells #[.int .i64 (wrap64 (x7_1 + 1)), u103001] 31 (0, 0)) zz27 hg (Kd.R_ne HO_103001.out BK102.out (by decide))) (IsS93.grown (by first | (refine spec_l02Draw.same_ HI0.out ?_; (repeat (first | (with_reducible first | exact HI0.out | apply IsS93.alloc | apply IsS93.drewN | apply IsS93.drew | apply IsS93.set_1 | apply IsS93.set_2 | refine IsS93.far ?_ NB0_101.out _ | refine IsS93.far ?_ NB0_102.out _ | refine IsS93.far ?_ NB0_109.out _) | exact HI0.out)); first | done | exact HI0.out) | (repeat (first | (with_reducible first | exact HI0.out | apply IsS93.alloc | apply IsS93.drewN | apply IsS93.drew | apply IsS93.set_1 | apply IsS93.set_2 | refine IsS93.far ?_ NB0_101.out _ | refine IsS93.far ?_ NB0_102.out _ | refine IsS93.far ?_ NB0_109.out _) | exact HI0.out))) hg (IsS93.own_ne HI0.out HO_103001.out (by decide))) (blk_grown (g := gb109) (o := .cells #[.int .i64 t106, .int .i64 x7_1] 67 (0, 0)) zz112 hg (Kd.R_away HO_103001.out (fun _ hk => hk.2))) (below_weaken (by repeat (first | (with_reducible first | exact HB.out | apply below_alloc | apply pw_below_drewN | apply below_drew1 | refine below_set ?_ (IsS93.ge HI0.out) | refine below_set ?_ GE101.out | refine below_set ?_ GE102.out | refine below_set ?_ GE109.out) | exact HB.out)) HL.out hb) (KeepBut.trans (by repeat (first | (with_reducible first | exact HK.out | apply KeepBut.set_ | apply keep_drewN | apply keep_drew | apply keep_alloc | refine keep_far ?_ GW101.out _ | refine keep_far ?_ GW102.out _ | refine keep_far ?_ GW109.out _) | exact HK.out)) (KeepBut.of_grown hg g) (Kd.R_base2 HO_103001.out)) ho; clear BK101 BK102 HI0 BK109 HB HK HO_103001; obtain ⟨BK101, BK102, HI0, BK109, HB, HK, HO112⟩ := n_; clear ho hb hg hat; obtain ⟨Ao24, co24, eo24⟩ := Kd.R_slice HO112.out; subst eo24; have hcz25_0 := zC20 BK102; have hcz25_1 := zC21 BK102; have hfz25_0 := blk_frozen BK102.out 0; have hfz25_1 := blk_frozen BK102.out 1))); go_roundg k1; (case measure => have := HK1.out; omega); case rel => exact ⟨(wrap64 (x7_1 + 1)), (t107), (t108), (wrap64 (x7_1 + 1)), (y110), (.slice Ao24 y110.length co24), zz7, H', ⟨zz107⟩, ⟨by (with_reducible repeat (first | apply Kd.R_alloc | apply Kd.R_drewN | apply Kd.R_drew)); exact Kd.R_mono (Kd.R_far (p := ⟨gb102, 1, none⟩) (Kd.R_types HO112.out BK102.out (by decide)) (fun _ hk => hk.2) (.slice Ao24 y110.length co24)) (fun _ hk => trivial)⟩, ⟨by (with_reducible repeat (first | refine blk_drewN ?_ _ | refine blk_drew ?_ | refine blk_alloc ?_ _)); refine blk_far ?_ NB101_102.out _; (with_reducible repeat (first | refine blk_drewN ?_ _ | refine blk_drew ?_ | refine blk_alloc ?_ _)); exact BK101.out⟩, ⟨by (with_reducible repeat (first | refine blk_drewN ?_ _ | refine blk_drew ?_ | refine blk_alloc ?_ _)); refine blk_put (cs := #[.int .i64 (wrap64 (x7_1 + 1)), u103001]) ?_ 1 _ rfl; (with_reducible repeat (first | refine blk_drewN ?_ _ | refine blk_drew ?_ | refine blk_alloc ?_ _)); exact BK102.out⟩, ⟨by repeat (first | (with_reducible first | exact HI0.out | apply IsS93.alloc | apply IsS93.drewN | apply IsS93.drew | apply IsS93.set_1 | apply IsS93.set_2 | refine IsS93.far ?_ NB0_101.out _ | refine IsS93.far ?_ NB0_102.out _ | refine IsS93.far ?_ NB0_109.out _) | exact HI0.out)⟩, ⟨by repeat (first | (with_reducible first | exact HK.out | apply KeepBut.set_ | apply keep_drewN | apply keep_drew | apply keep_alloc | refine keep_far ?_ GW101.out _ | refine keep_far ?_ GW102.out _ | refine keep_far ?_ GW109.out _) | exact HK.out)⟩, ⟨by repeat (first | (with_reducible first | exact HB.out | apply below_alloc | apply pw_below_drewN | apply below_drew1 | refine below_set ?_ (IsS93.ge HI0.out) | refine below_set ?_ GE101.out | refine below_set ?_ GE102.out | refine below_set ?_ GE109.out) | exact HB.out)⟩⟩
   rw [if_neg c10] at H; have c10b0 := decide_eq_false c10; clear c10; have H' := Aside0.mk H; clear H; (go_wp2_with (first | ((with_reducible refine gate_dst (N := 9) rfl ?_); refine box_event ?hg (N := 9) ?hd (cs := #[.int .i64 0, .slice none 0 0]) (t := 31) ?hr ?_; (case hd => rfl); (case hg => rfl); (case hr => exact zz18); intro gb113 hg w26 hbox hb; have n_ := zA15 (Kd.R_below zz24 hb) (blk_below (g := gb101) (o := .cells #[.int .i64 0, .slice none 0 0] 31 (0, 0)) zz0 hb) (blk_below (g := gb102) (o := .cells #[.int .i64 x103000_1, u103001] 31 (0, 0)) zz5 hb) (IsS93.below zz92 hb) (KeepBut.trans zz45 (KeepBut.of_below hb g none) (.inl rfl)) (below_step (by repeat (first | (with_reducible first | exact HB.out | apply below_alloc | apply pw_below_drewN | apply below_drew1 | refine below_set ?_ (IsS93.ge HI0.out) | refine below_set ?_ GE101.out | refine below_set ?_ GE102.out) | exact HB.out)) hb) hbox (by rw [hg]; exact (keep_size (w := w) (g := g) (row := none) zz45) : w.heap.size ≤ gb113) (Nat.le_trans HW0.out (by rw [hg]; exact (keep_size (w := w) (g := g) (row := none) zz45) : w.heap.size ≤ gb113) : w0.heap.size ≤ gb113) (zz51 : gb101 ≠ gb113) (zz52 : gb113 ≠ gb101) (zz85 : gb102 ≠ gb113) (zz86 : gb113 ≠ gb102) (by rw [hg]; exact Nat.ne_of_lt (IsS93.lt (show IsS93 w0 _ g s0_0 x1001_1 x1002_1 from by repeat (first | (with_reducible first | exact HI0.out | apply IsS93.alloc | apply IsS93.drewN | apply IsS93.drew | apply IsS93.set_1 | apply IsS93.set_2 | refine IsS93.far ?_ NB0_101.out _ | refine IsS93.far ?_ NB0_102.out _) | exact HI0.out))) : g ≠ gb113) (by rw [hg]; exact Nat.ne_of_gt (IsS93.lt (show IsS93 w0 _ g s0_0 x1001_1 x1002_1 from by repeat (first | (with_reducible first | exact HI0.out | apply IsS93.alloc | apply IsS93.drewN | apply IsS93.drew | apply IsS93.set_1 | apply IsS93.set_2 | refine IsS93.far ?_ NB0_101.out _ | refine IsS93.far ?_ NB0_102.out _) | exact HI0.out))) : gb113 ≠ g); clear HO_103001 BK101 BK102 HI0 HK HB; obtain ⟨HO_103001, BK101, BK102, HI0, HK, HB, BK113, GW113, GE113, NB101_113, NB113_101, NB102_113, NB113_102, NB0_113, NB113_0⟩ := n_; clear hb hbox hg; have hnb27 := NB113_101.out; have hnc27 := NB101_113.out; have hnb28 := NB113_102.out; have hnc28 := NB102_113.out; have hnb29 := NB113_0.out; have hnc29 := NB0_113.out; have hcz30_0 := zC20 BK113; have hcz30_1 := zC21 BK113; have hfz30_0 := blk_frozen BK113.out 0; have hfz30_1 := blk_frozen BK113.out 1))); (go_loopg [10] k1 (fun kq v10 w' => ∃ (x10_2 : Int) (x114001_2 : List (S67)) (u114001 : Value), v10 = .int .i64 x10_2 ∧ Aside0 (spec_l02Draw.l1 kq (wrap64 (2 + t103)) x10_2 s0_0 x1001_1 x1002_1 x103000_1 x103001_1 (wrap64 (2 + t103)) x114001_2 = some (r1, r2, r3, r4)) ∧ Aside0 (kq ≤ k1) ∧ Aside0 (Kd.R k67 67 w' w.heap.size (fun k_ => some k_ ≠ (u114001 : Value).ownBlock) u103001 x103001_1) ∧ Aside0 (Kd.R k67 67 w' w.heap.size (fun k_ => some k_ ≠ (u103001 : Value).ownBlock) u114001 x114001_2) ∧ Aside0 (w'.heap[gb101]? = some (.cells #[.int .i64 0, (.slice none 0 0)] 31 (0, 0))) ∧ Aside0 (w'.heap[gb102]? = some (.cells #[.int .i64 x103000_1, u103001] 31 (0, 0))) ∧ Aside0 (w'.heap[gb113]? = some (.cells #[.int .i64 (wrap64 (2 + t103)), u114001] 31 (0, 0))) ∧ Aside0 (IsS93 w0 w' g s0_0 x1001_1 x1002_1) ∧ Aside0 (KeepBut w w' g none) ∧ Aside0 (Below w0.heap.size w0 w'))); case atStart => exact ⟨(0), (([] : List (S67))), (.slice none 0 0), zz7, H', ⟨Nat.le_refl _⟩, ⟨by (with_reducible repeat (first | apply Kd.R_alloc | apply Kd.R_drewN | apply Kd.R_drew)); exact Kd.R_mono (Kd.R_far (p := ⟨gb113, 1, none⟩) (Kd.R_far (p := ⟨gb113, 0, none⟩) (Kd.R_types HO_103001.out BK113.out (by decide)) (fun _ hk => hk.2) (.int .i64 (wrap64 (2 + t103)))) (fun _ hk => hk.2) (.slice none 0 0)) (fun _ hk => (by simp [Value.ownBlock]))⟩, ⟨zz47⟩, ⟨by (with_reducible repeat (first | refine blk_drewN ?_ _ | refine blk_drew ?_ | refine blk_alloc ?_ _)); refine blk_far ?_ NB101_113.out _; (with_reducible repeat (first | refine blk_drewN ?_ _ | refine blk_drew ?_ | refine blk_alloc ?_ _)); refine blk_far ?_ NB101_113.out _; (with_reducible repeat (first | refine blk_drewN ?_ _ | refine blk_drew ?_ | refine blk_alloc ?_ _)); exact BK101.out⟩, ⟨by (with_reducible repeat (first | refine blk_drewN ?_ _ | refine blk_drew ?_ | refine blk_alloc ?_ _)); refine blk_far ?_ NB102_113.out _; (with_reducible repeat (first | refine blk_drewN ?_ _ | refine blk_drew ?_ | refine blk_alloc ?_ _)); refine blk_far ?_ NB102_113.out _; (with_reducible repeat (first | refine blk_drewN ?_ _ | refine blk_drew ?_ | refine blk_alloc ?_ _)); exact BK102.out⟩, ⟨by (with_reducible repeat (first | refine blk_drewN ?_ _ | refine blk_drew ?_ | refine blk_alloc ?_ _)); refine blk_put (cs := #[.int .i64 (wrap64 (2 + t103)), .slice none 0 0]) ?_ 1 _ rfl; (with_reducible repeat (first | refine blk_drewN ?_ _ | refine blk_drew ?_ | refine blk_alloc ?_ _)); refine blk_put (cs := #[.int .i64 0, .slice none 0 0]) ?_ 0 _ rfl; (with_reducible repeat (first | refine blk_drewN ?_ _ | refine blk_drew ?_ | refine blk_alloc ?_ _)); exact BK113.out⟩, ⟨zz36⟩, ⟨zz8⟩, ⟨zz30⟩⟩
   case round =>
    clear H'; (try clear c1); (try clear c2); (try clear p2); (try clear c4); (try clear c6); (try clear p6); (try clear c7); (try clear c10); (try clear c10b0); (try clear c12); (try clear c13); (try clear c14); (try clear c18); (try clear c19); (try clear c20); (try clear c27); (try clear c28); (try clear c29); (try clear hcz15_0); (try clear hcz15_1); (try clear hcz21_0); (try clear hcz21_1); (try clear hcz22_0); (try clear hcz22_1); (try clear hcz25_0); (try clear hcz25_1); (try clear hcz30_0); (try clear hcz30_1); (try clear hcz8_0); (try clear hcz8_1); (try clear hfz15_0); (try clear hfz15_1); (try clear hfz21_0); (try clear hfz21_1); (try clear hfz22_0); (try clear hfz22_1); (try clear hfz25_0); (try clear hfz25_1); (try clear hfz30_0); (try clear hfz30_1); (try clear hfz8_0); (try clear hfz8_1); (try clear p2); (try clear p6); obtain ⟨x10_2, x114001_2, u114001, rfl, HA, HK2, HO_103001, HO_114001, BK101, BK102, BK113, HI0, HK, HB⟩ := hrel
    cases gk with
    | zero => exact absurd HA.out (by simp [spec_l02Draw.l1])
    | succ k2 =>
     have H := HA.out; clear HA; simp only [spec_l02Draw.l1] at H; by_cases c31 : x10_2 < (wrap64 (2 + t103))
     ·rw [if_pos c31] at H; have c31b0 := decide_eq_true c31; clear c31; have H' := Aside0.mk H; clear H; go_wp2; (go_loopg [11] k2 (fun kq v11 w' => ∃ (x11_3 : Int) (x114001_3 : List (S67)) (u114001 : Value), v11 = .int .i64 x11_3 ∧ Aside0 (spec_l02Draw.l2 kq (wrap64 (2 + t103)) x10_2 x11_3 s0_0 x1001_1 x1002_1 x103000_1 x103001_1 (wrap64 (2 + t103)) x114001_3 = some (r1, r2, r3, r4)) ∧ Aside0 (kq ≤ k2) ∧ Aside0 (Kd.R k67 67 w' w.heap.size (fun k_ => some k_ ≠ (u114001 : Value).ownBlock) u103001 x103001_1) ∧ Aside0 (Kd.R k67 67 w' w.heap.size (fun k_ => some k_ ≠ (u103001 : Value).ownBlock) u114001 x114001_3) ∧ Aside0 (w'.heap[gb101]? = some (.cells #[.int .i64 0, (.slice none 0 0)] 31 (0, 0))) ∧ Aside0 (w'.heap[gb102]? = some (.cells #[.int .i64 x103000_1, u103001] 31 (0, 0))) ∧ Aside0 (w'.heap[gb113]? = some (.cells #[.int .i64 (wrap64 (2 + t103)), u114001] 31 (0, 0))) ∧ Aside0 (IsS93 w0 w' g s0_0 x1001_1 x1002_1) ∧ Aside0 (KeepBut w w' g none) ∧ Aside0 (Below w0.heap.size w0 w'))); case atStart => exact ⟨(wrap64 (x10_2 + 1)), (x114001_2), (u114001), zz7, H', ⟨Nat.le_refl _⟩, ⟨zz24⟩, ⟨zz25⟩, ⟨zz0⟩, ⟨zz5⟩, ⟨zz13⟩, ⟨zz36⟩, ⟨zz8⟩, ⟨zz30⟩⟩
      case round =>
       clear H'; (try clear c1); (try clear c2); (try clear p2); (try clear c3); (try clear c4); (try clear c6); (try clear p6); (try clear c7); (try clear c10); (try clear c10b0); (try clear c12); (try clear c13); (try clear c14); (try clear c18); (try clear c19); (try clear c20); (try clear c27); (try clear c28); (try clear c29); (try clear c31); (try clear c31b0); (try clear hcz15_0); (try clear hcz15_1); (try clear hcz21_0); (try clear hcz21_1); (try clear hcz22_0); (try clear hcz22_1); (try clear hcz25_0); (try clear hcz25_1); (try clear hcz30_0); (try clear hcz30_1); (try clear hcz8_0); (try clear hcz8_1); (try clear hfz15_0); (try clear hfz15_1); (try clear hfz21_0); (try clear hfz21_1); (try clear hfz22_0); (try clear hfz22_1); (try clear hfz25_0); (try clear hfz25_1); (try clear hfz30_0); (try clear hfz30_1); (try clear hfz8_0); (try clear hfz8_1); (try clear p2); (try clear p6); obtain ⟨x11_3, x114001_3, u114001, rfl, HA, HK3, HO_103001, HO_114001, BK101, BK102, BK113, HI0, HK, HB⟩ := hrel
       cases gk with
       | zero => exact absurd HA.out (by simp [spec_l02Draw.l2])
       | succ k3 =>
        have H := HA.out; clear HA; simp only [spec_l02Draw.l2] at H; by_cases c32 : x11_3 < (wrap64 (2 + t103)); rotate_left
        ·rw [if_neg c32] at H; have c32b0 := decide_eq_false c32; clear c32; have H' := Aside0.mk H; clear H; go_wp2; go_roundg k3; (case measure => have := HK1.out; have := HK2.out; have := HK3.out; omega); case rel => exact ⟨(wrap64 (x10_2 + 1)), (x114001_3), (u114001), zz7, H', ⟨by have := HK1.out; have := HK2.out; have := HK3.out; omega⟩, ⟨zz24⟩, ⟨zz25⟩, ⟨zz0⟩, ⟨zz5⟩, ⟨zz13⟩, ⟨zz36⟩, ⟨zz8⟩, ⟨zz30⟩⟩
        rw [if_pos c32] at H; have c32b0 := decide_eq_true c32; clear c32; replace H := Option.bind_eq_some_iff.mp H; obtain ⟨t114, A330, H⟩ := H; (try dsimp only at H); have A33 := Aside0.mk A330; clear A330; have H' := Aside0.mk H; clear H; have hnb34 := NB102_101.out; have hnc34 := NB101_102.out; have hnb35 := NB102_113.out; have hnc35 := NB113_102.out; have hnb36 := NB102_0.out; have hnc36 := NB0_102.out; have hcz37_0 := zC20 BK102; have hcz37_1 := zC21 BK102; have hfz37_0 := blk_frozen BK102.out 0; have hfz37_1 := blk_frozen BK102.out 1; obtain ⟨Ao38, co38, eo38⟩ := Kd.R_slice HO_103001.out; subst eo38; (go_wp2_with (first | ((with_reducible refine gate_callee (f := 82) rfl ?_); refine goesL_ (some 59) rfl rfl Try.func82 (by kernel_rfl) rfl #[.agg #[.int .i64 x103000_1, .slice Ao38 x103001_1.length co38], .int .i64 x10_2, .int .i64 x11_3] rfl zz3 ?_; (with_reducible refine (spec_Multiplicity.calls k3 x103000_1 _ _ x103001_1 x10_2 x11_3 t114 _ ?side1 ?side2 A33.out).mono ?_); (case side1 => repeat (first | exact (Kd.R_reads' HO_103001.out).2.2 | (with_reducible refine Kd.C_alloc ?_ _) | (with_reducible refine Kd.C_drewN ?_ _) | (with_reducible refine Kd.C_drew ?_))); (case side2 => exact (Kd.R_reads' HO_103001.out).2.1); rintro e w39 ⟨rfl, hb⟩; refine ⟨_, rfl, ?_⟩; have n_ := zA8 (Kd.R_below zz24 hb) (Kd.R_below zz25 hb) (blk_below (g := gb101) (o := .cells #[.int .i64 0, .slice none 0 0] 31 (0, 0)) zz0 hb) (blk_below (g := gb102) (o := .cells #[.int .i64 x103000_1, .slice Ao38 x103001_1.length co38] 31 (0, 0)) zz5 hb) (blk_below (g := gb113) (o := .cells #[.int .i64 (wrap64 (2 + t103)), u114001] 31 (0, 0)) zz13 hb) (IsS93.below zz10 hb) (KeepBut.trans zz8 (KeepBut.of_below hb g none) (.inl rfl)) (below_step zz30 hb); clear HO_103001 HO_114001 BK101 BK102 BK113 HI0 HK HB; obtain ⟨HO_103001, HO_114001, BK101, BK102, BK113, HI0, HK, HB⟩ := n_; clear hb))); (go_loopg [12] k3 (fun kq v12 w' => ∃ (x12_4 : Int) (x114001_4 : List (S67)) (u114001 : Value), v12 = .int .i64 x12_4 ∧ Aside0 (spec_l02Draw.l3 kq (wrap64 (2 + t103)) x10_2 x11_3 x12_4 s0_0 x1001_1 x1002_1 x103000_1 x103001_1 (wrap64 (2 + t103)) x114001_4 = some (r1, r2, r3, r4)) ∧ Aside0 (kq ≤ k3) ∧ Aside0 (Kd.R k67 67 w' w.heap.size (fun k_ => some k_ ≠ (u114001 : Value).ownBlock) (.slice Ao38 x103001_1.length co38) x103001_1) ∧ Aside0 (Kd.R k67 67 w' w.heap.size (fun k_ => some k_ ≠ ((.slice Ao38 x103001_1.length co38) : Value).ownBlock) u114001 x114001_4) ∧ Aside0 (w'.heap[gb101]? = some (.cells #[.int .i64 0, (.slice none 0 0)] 31 (0, 0))) ∧ Aside0 (w'.heap[gb102]? = some (.cells #[.int .i64 x103000_1, (.slice Ao38 x103001_1.length co38)] 31 (0, 0))) ∧ Aside0 (w'.heap[gb113]? = some (.cells #[.int .i64 (wrap64 (2 + t103)), u114001] 31 (0, 0))) ∧ Aside0 (IsS93 w0 w' g s0_0 x1001_1 x1002_1) ∧ Aside0 (KeepBut w w' g none) ∧ Aside0 (Below w0.heap.size w0 w'))); case atStart => exact ⟨(t114), (x114001_3), (u114001), zz7, H', ⟨Nat.le_refl _⟩, ⟨zz24⟩, ⟨zz25⟩, ⟨zz0⟩, ⟨zz5⟩, ⟨zz13⟩, ⟨zz36⟩, ⟨zz8⟩, ⟨zz30⟩⟩
        case round =>
         clear H'; (try clear c1); (try clear c2); (try clear p2); (try clear c3); (try clear c4); (try clear c6); (try clear p6); (try clear c7); (try clear c8); (try clear c10); (try clear c10b0); (try clear c12); (try clear c13); (try clear c14); (try clear c18); (try clear c19); (try clear c20); (try clear c27); (try clear c28); (try clear c29); (try clear c31); (try clear c31b0); (try clear c32); (try clear c32b0); (try clear c34); (try clear c35); (try clear c36); (try clear hcz15_0); (try clear hcz15_1); (try clear hcz21_0); (try clear hcz21_1); (try clear hcz22_0); (try clear hcz22_1); (try clear hcz25_0); (try clear hcz25_1); (try clear hcz30_0); (try clear hcz30_1); (try clear hcz37_0); (try clear hcz37_1); (try clear hcz8_0); (try clear hcz8_1); (try clear hfz15_0); (try clear hfz15_1); (try clear hfz21_0); (try clear hfz21_1); (try clear hfz22_0); (try clear hfz22_1); (try clear hfz25_0); (try clear hfz25_1); (try clear hfz30_0); (try clear hfz30_1); (try clear hfz37_0); (try clear hfz37_1); (try clear hfz8_0); (try clear hfz8_1); (try clear p2); (try clear p6); obtain ⟨x12_4, x114001_4, u114001, rfl, HA, HK4, HO_103001, HO_114001, BK101, BK102, BK113, HI0, HK, HB⟩ := hrel
         cases gk with
         | zero => exact absurd HA.out (by simp [spec_l02Draw.l3])
         | succ k4 =>
          have H := HA.out; clear HA; simp only [spec_l02Draw.l3] at H; by_cases c40 : x12_4 > 0; rotate_left
          ·rw [if_neg c40] at H; have c40b0 : decide (0 < x12_4) = false := decide_eq_false c40; clear c40; have H' := Aside0.mk H; clear H; go_wp2; go_roundg k4; (case measure => have := HK1.out; have := HK2.out; have := HK3.out; have := HK4.out; omega); case rel => exact ⟨(wrap64 (x11_3 + 1)), (x114001_4), (u114001), zz7, H', ⟨by have := HK1.out; have := HK2.out; have := HK3.out; have := HK4.out; omega⟩, ⟨zz24⟩, ⟨zz25⟩, ⟨zz0⟩, ⟨zz5⟩, ⟨zz13⟩, ⟨zz36⟩, ⟨zz8⟩, ⟨zz30⟩⟩
          rw [if_pos c40] at H; have c40b0 : decide (0 < x12_4) = true := decide_eq_true c40; clear c40; by_cases c41 : x114001_4.length < 8796093022208; rotate_left
          ·rw [if_neg c41] at H; exact absurd H (by simp)
          rw [if_pos c41] at H; have LMc41 := Aside0.mk c41; clear c41; obtain ⟨y115, hy_⟩ : ∃ y_ : List (S67), y_ = (x114001_4 ++ [(⟨x10_2, x11_3⟩ : S67)]) := ⟨_, rfl⟩; (replace H : (spec_l02Draw.l3 k4 (wrap64 (2 + t103)) x10_2 x11_3 (wrap64 (x12_4 - 1)) s0_0 x1001_1 x1002_1 x103000_1 x103001_1 (wrap64 (2 + t103)) y115) = some (r1, r2, r3, r4) := zzY); have Ny115 := Aside0.mk hy_; clear hy_; have H' := Aside0.mk H; clear H; have hnb42 := NB113_101.out; have hnc42 := NB101_113.out; have hnb43 := NB113_102.out; have hnc43 := NB102_113.out; have hnb44 := NB113_0.out; have hnc44 := NB0_113.out; have hcz45_0 := zC20 BK113; have hcz45_1 := zC21 BK113; have hfz45_0 := blk_frozen BK113.out 0; have hfz45_1 := blk_frozen BK113.out 1; (go_wp2_with (first | ((with_reducible refine gate_builtin (b := .append) (xs := #[.tmp 65, .tmp 69]) rfl ?_); at_builtin; refine Kd.R_append k67 w.heap.size rfl (.tmp 65) (.tmp 69) 29 67 (.agg #[(.int .i64 0), (.int .i64 0)]) 16 rfl Try.underlying29 info67 rfl (by decide) (by omega) u114001 x114001_4 (⟨x10_2, x11_3⟩ : S67) [.int .i64 x10_2, .int .i64 x11_3] (fun k_ => some k_ ≠ (.slice Ao38 x103001_1.length co38 : Value).ownBlock) (fun _ => False) rfl rfl ?aP (fun _ hk => hk.elim) ?aF ?aO (Below.refl _ _) ?aS ?aL ?_; (case aP => exact k67_mkM _ _ _ (⟨x10_2, x11_3⟩ : S67)); (case aF => exact (fun k_ hk => Kd.fresh' (Kd.R_lt zz24) k_ hk)); (case aO => exact zz25); (case aS => exact (keep_size (w := w) (g := g) (row := none) zz8)); (case aL => have := LMc41.out; omega); intro v116 w46 ho hb hg hat; rw [← Ny115.out] at ho; have n_ := zA8 (Kd.R_after (ok := (fun _ => True)) (by (with_reducible repeat (first | apply Kd.R_alloc | apply Kd.R_drewN | apply Kd.R_drew)); exact Kd.R_mono HO_103001.out (fun _ hk => ⟨trivial, hk⟩)) hg hat) (blk_grown (g := gb101) (o := .cells #[.int .i64 0, .slice none 0 0] 31 (0, 0)) zz0 hg (Kd.R_ne HO_114001.out BK101.out (by decide))) (blk_grown (g := gb102) (o := .cells #[.int .i64 x103000_1, .slice Ao38 x103001_1.length co38] 31 (0, 0)) zz5 hg (Kd.R_ne HO_114001.out BK102.out (by decide))) (blk_grown (g := gb113) (o := .cells #[.int .i64 (wrap64 (2 + t103)), u114001] 31 (0, 0)) zz13 hg (Kd.R_ne HO_114001.out BK113.out (by decide))) (IsS93.grown zz10 hg (IsS93.own_ne HI0.out HO_114001.out (by decide))) (below_weaken zz30 HL.out hb) (KeepBut.trans zz8 (KeepBut.of_grown hg g) (Kd.R_base2 HO_114001.out)) ho; clear HO_103001 BK101 BK102 BK113 HI0 HB HK HO_114001; obtain ⟨HO_103001, BK101, BK102, BK113, HI0, HB, HK, HO117⟩ := n_; clear ho hb hg hat; obtain ⟨Ao47, co47, eo47⟩ := Kd.R_slice HO117.out; subst eo47; have hcz48_0 := zC20 BK113; have hcz48_1 := zC21 BK113; have hfz48_0 := blk_frozen BK113.out 0; have hfz48_1 := blk_frozen BK113.out 1))); go_roundg k4; (case measure => have := HK1.out; have := HK2.out; have := HK3.out; have := HK4.out; omega); case rel => exact ⟨(wrap64 (x12_4 - 1)), (y115), (.slice Ao47 y115.length co47), zz7, H', ⟨by have := HK1.out; have := HK2.out; have := HK3.out; have := HK4.out; omega⟩, ⟨by (with_reducible repeat (first | apply Kd.R_alloc | apply Kd.R_drewN | apply Kd.R_drew)); exact Kd.R_mono (Kd.R_far (p := ⟨gb113, 1, none⟩) (Kd.R_types HO_103001.out BK113.out (by decide)) (fun _ hk => hk.2) (.slice Ao47 y115.length co47)) (fun _ hk => hk.1.2)⟩, ⟨by (with_reducible repeat (first | apply Kd.R_alloc | apply Kd.R_drewN | apply Kd.R_drew)); exact Kd.R_mono (Kd.R_far (p := ⟨gb113, 1, none⟩) (Kd.R_types HO117.out BK113.out (by decide)) (fun _ hk => hk.2) (.slice Ao47 y115.length co47)) (fun _ hk => hk.1)⟩, ⟨by (with_reducible repeat (first | refine blk_drewN ?_ _ | refine blk_drew ?_ | refine blk_alloc ?_ _)); refine blk_far ?_ NB101_113.out _; (with_reducible repeat (first | refine blk_drewN ?_ _ | refine blk_drew ?_ | refine blk_alloc ?_ _)); exact BK101.out⟩, ⟨by (with_reducible repeat (first | refine blk_drewN ?_ _ | refine blk_drew ?_ | refine blk_alloc ?_ _)); refine blk_far ?_ NB102_113.out _; (with_reducible repeat (first | refine blk_drewN ?_ _ | refine blk_drew ?_ | refine blk_alloc ?_ _)); exact BK102.out⟩, ⟨by (with_reducible repeat (first | refine blk_drewN ?_ _ | refine blk_drew ?_ | refine blk_alloc ?_ _)); refine blk_put (cs := #[.int .i64 (wrap64 (2 + t103)), u114001]) ?_ 1 _ rfl; (with_reducible repeat (first | refine blk_drewN ?_ _ | refine blk_drew ?_ | refine blk_alloc ?_ _)); exact BK113.out⟩, ⟨zz36⟩, ⟨zz8⟩, ⟨zz30⟩⟩
     rw [if_neg c31] at H; have c31b0 := decide_eq_false c31; clear c31; replace H := Option.bind_eq_some_iff.mp H; obtain ⟨⟨t118, t119, t120⟩, A490, H⟩ := H; dsimp only at H; have A49 := Aside0.mk A490; clear A490; have H' := Aside0.mk H; clear H; (go_wp2_with (first | ((with_reducible refine gate_callee (f := 43) rfl ?_); refine goesL_ (some 73) rfl rfl Try.func43 (by kernel_rfl) rfl #[.pointer (some ⟨g, 0, none⟩), .int .i64 5] rfl zz3 ?_; (with_reducible refine (spec_l01Below.calls g s0_0 x1001_1 x1002_1 5 t118 t119 t120 w0 _ ?side1 ?side2 A49.out).mono ?_); (case side1 => repeat (first | (with_reducible first | exact HI0.out | apply IsS93.alloc | apply IsS93.drewN | apply IsS93.drew | apply IsS93.set_1 | apply IsS93.set_2 | refine IsS93.far ?_ NB0_101.out _ | refine IsS93.far ?_ NB0_102.out _ | refine IsS93.far ?_ NB0_113.out _) | exact HI0.out)); (case side2 => exact zz30); rintro e w50 ⟨rfl, hi, hb, hk⟩; refine ⟨_, rfl, ?_⟩; have n_ := zA8 (Kd.R_mono (Kd.R_keep (IsS93.apart (show IsS93 w0 _ g s0_0 x1001_1 x1002_1 from by repeat (first | (with_reducible first | exact HI0.out | apply IsS93.alloc | apply IsS93.drewN | apply IsS93.drew | apply IsS93.set_1 | apply IsS93.set_2 | refine IsS93.far ?_ NB0_101.out _ | refine IsS93.far ?_ NB0_102.out _ | refine IsS93.far ?_ NB0_113.out _) | exact HI0.out)) zz24 (by decide)) hk (fun _ h => h.2)) (fun _ h => h.1)) (Kd.R_mono (Kd.R_keep (IsS93.apart (show IsS93 w0 _ g s0_0 x1001_1 x1002_1 from by repeat (first | (with_reducible first | exact HI0.out | apply IsS93.alloc | apply IsS93.drewN | apply IsS93.drew | apply IsS93.set_1 | apply IsS93.set_2 | refine IsS93.far ?_ NB0_101.out _ | refine IsS93.far ?_ NB0_102.out _ | refine IsS93.far ?_ NB0_113.out _) | exact HI0.out)) zz25 (by decide)) hk (fun _ h => h.2)) (fun _ h => h.1)) (KeepBut.blk hk (g' := gb101) (o := .cells #[.int .i64 0, .slice none 0 0] 31 (0, 0)) zz0 NB101_0.out (by simp)) (KeepBut.blk hk (g' := gb102) (o := .cells #[.int .i64 x103000_1, u103001] 31 (0, 0)) zz5 NB102_0.out (by simp)) (KeepBut.blk hk (g' := gb113) (o := .cells #[.int .i64 (wrap64 (2 + t103)), u114001] 31 (0, 0)) zz13 NB113_0.out (by simp)) (KeepBut.trans zz8 hk (.inl rfl)) hb hi; clear HO_103001 HO_114001 BK101 BK102 BK113 HK HB HI0; obtain ⟨HO_103001, HO_114001, BK101, BK102, BK113, HK, HB, HI0⟩ := n_; clear hi hb hk))); (go_loopg [13] k2 (fun kq v13 w' => ∃ (x13_3 : Int) (x1001_3 : Int) (x1002_3 : Int) (x114000_3 : Int) (x114001_3 : List (S67)) (u114001 : Value), v13 = .int .i64 x13_3 ∧ Aside0 (spec_l02Draw.l4 kq (wrap64 (2 + t103)) x13_3 s0_0 x1001_3 x1002_3 x114000_3 x114001_3 = some (r1, r2, r3, r4)) ∧ Aside0 (kq ≤ k2) ∧ Aside0 (Kd.R k67 67 w' w.heap.size (fun k_ => some k_ ≠ (u114001 : Value).ownBlock) u103001 x103001_1) ∧ Aside0 (Kd.R k67 67 w' w.heap.size (fun k_ => some k_ ≠ (u103001 : Value).ownBlock) u114001 x114001_3) ∧ Aside0 (w'.heap[gb101]? = some (.cells #[.int .i64 0, (.slice none 0 0)] 31 (0, 0))) ∧ Aside0 (w'.heap[gb102]? = some (.cells #[.int .i64 x103000_1, u103001] 31 (0, 0))) ∧ Aside0 (w'.heap[gb113]? = some (.cells #[.int .i64 x114000_3, u114001] 31 (0, 0))) ∧ Aside0 (IsS93 w0 w' g s0_0 x1001_3 x1002_3) ∧ Aside0 (KeepBut w w' g none) ∧ Aside0 (Below w0.heap.size w0 w'))); case atStart => exact ⟨(t118), (t119), (t120), ((wrap64 (2 + t103))), (x114001_2), (u114001), zz7, H', ⟨Nat.le_refl _⟩, ⟨zz24⟩, ⟨zz25⟩, ⟨zz0⟩, ⟨zz5⟩, ⟨zz13⟩, ⟨zz36⟩, ⟨zz8⟩, ⟨zz30⟩⟩
     case round =>
      clear H'; (try clear c1); (try clear c2); (try clear p2); (try clear c3); (try clear c4); (try clear c6); (try clear p6); (try clear c7); (try clear c8); (try clear c10); (try clear c10b0); (try clear c12); (try clear c13); (try clear c14); (try clear c18); (try clear c19); (try clear c20); (try clear c27); (try clear c28); (try clear c29); (try clear c31); (try clear c31b0); (try clear c32); (try clear c32b0); (try clear c34); (try clear c35); (try clear c36); (try clear c40); (try clear c40b0); (try clear c41); (try clear c42); (try clear c43); (try clear c44); (try clear hcz15_0); (try clear hcz15_1); (try clear hcz21_0); (try clear hcz21_1); (try clear hcz22_0); (try clear hcz22_1); (try clear hcz25_0); (try clear hcz25_1); (try clear hcz30_0); (try clear hcz30_1); (try clear hcz37_0); (try clear hcz37_1); (try clear hcz45_0); (try clear hcz45_1); (try clear hcz48_0); (try clear hcz48_1); (try clear hcz8_0); (try clear hcz8_1); (try clear hfz15_0); (try clear hfz15_1); (try clear hfz21_0); (try clear hfz21_1); (try clear hfz22_0); (try clear hfz22_1); (try clear hfz25_0); (try clear hfz25_1); (try clear hfz30_0); (try clear hfz30_1); (try clear hfz37_0); (try clear hfz37_1); (try clear hfz45_0); (try clear hfz45_1); (try clear hfz48_0); (try clear hfz48_1); (try clear hfz8_0); (try clear hfz8_1); (try clear p2); (try clear p6); obtain ⟨x13_3, x1001_3, x1002_3, x114000_3, x114001_3, u114001, rfl, HA, HK3, HO_103001, HO_114001, BK101, BK102, BK113, HI0, HK, HB⟩ := hrel
      cases gk with
      | zero => exact absurd HA.out (by simp [spec_l02Draw.l4])
      | succ k3 =>
       have H := HA.out; clear HA; simp only [spec_l02Draw.l4] at H; by_cases c51 : x13_3 > 0; rotate_left
       ·rw [if_neg c51] at H; have c51b0 : decide (0 < x13_3) = false := decide_eq_false c51; clear c51; simp only [Option.some.injEq, Prod.mk.injEq] at H; obtain ⟨rfl, rfl, rfl, rfl⟩ := H; have hnb86 := NB113_101.out; have hnc86 := NB101_113.out; have hnb87 := NB113_102.out; have hnc87 := NB102_113.out; have hnb88 := NB113_0.out; have hnc88 := NB0_113.out; have hcz89_0 := zC20 BK113; have hcz89_1 := zC21 BK113; have hfz89_0 := blk_frozen BK113.out 0; have hfz89_1 := blk_frozen BK113.out 1; have hnb90 := NB101_102.out; have hnc90 := NB102_101.out; have hnb91 := NB101_0.out; have hnc91 := NB0_101.out; have hcz92_0 := zC20 BK101; have hcz92_1 := zC21 BK101; have hfz92_0 := blk_frozen BK101.out 0; have hfz92_1 := blk_frozen BK101.out 1; obtain ⟨Ao93, co93, eo93⟩ := Kd.R_slice HO_114001.out; subst eo93; go_wp2; refine bodyPost_ret (results_cell_row rfl _ _ gb101 31 #[.int .i64 x114000_3, .slice Ao93 x114001_3.length co93] (0, 0) _ rfl (by (with_reducible repeat (first | refine blk_drewN ?_ _ | refine blk_drew ?_ | refine blk_alloc ?_ _)); refine blk_put (cs := #[.int .i64 x114000_3, .slice none 0 0]) ?_ 1 _ rfl; (with_reducible repeat (first | refine blk_drewN ?_ _ | refine blk_drew ?_ | refine blk_alloc ?_ _)); refine blk_put (cs := #[.int .i64 0, .slice none 0 0]) ?_ 0 _ rfl; (with_reducible repeat (first | refine blk_drewN ?_ _ | refine blk_drew ?_ | refine blk_alloc ?_ _)); exact BK101.out) Try.underlying31 rfl (by kernel_rfl)) rfl ?_; exact ⟨_, zz9, by (with_reducible repeat (first | apply Kd.R_alloc | apply Kd.R_drewN | apply Kd.R_drew)); exact Kd.R_mono (Kd.R_far (p := ⟨gb101, 1, none⟩) (Kd.R_far (p := ⟨gb101, 0, none⟩) (Kd.R_types HO_114001.out BK101.out (by decide)) (fun _ hk => hk.2) (.int .i64 x114000_3)) (fun _ hk => hk.2) (.slice Ao93 x114001_3.length co93)) (fun _ hk => trivial), zz36, zz30, zz8⟩
       rw [if_pos c51] at H; have c51b0 : decide (0 < x13_3) = true := decide_eq_true c51; clear c51; replace H := Option.bind_eq_some_iff.mp H; obtain ⟨⟨t121, t122, t123⟩, A520, H⟩ := H; dsimp only at H; have A52 := Aside0.mk A520; clear A520; replace H := Option.bind_eq_some_iff.mp H; obtain ⟨⟨t124, t125, t126⟩, A530, H⟩ := H; dsimp only at H; have A53 := Aside0.mk A530; clear A530; by_cases c54 : (wrap64 (2 + t103)) = 0
       ·rw [if_pos c54] at H; exact absurd H (by simp)
       rw [if_neg c54] at H; have c54b0 : ((wrap64 (2 + t103)) == 0) = false := beq_eq_false_iff_ne.mpr c54; have c54b1 : ((wrap64 (2 + t103)) != 0) = true := bne_iff_ne.mpr c54; replace H := Option.bind_eq_some_iff.mp H; obtain ⟨⟨t127, t128, t131⟩, A550, H⟩ := H; dsimp only at H; have A55 := Aside0.mk A550; clear A550; by_cases c56 : t131 = true; rotate_left
       ·replace c56 := Bool.eq_false_iff.mpr c56; subst c56; rw [if_neg (show ¬ (false = true) by decide)] at H; have H' := Aside0.mk H; clear H; (try go_wp2_with (first | ((with_reducible refine gate_callee (f := 43) rfl ?_); refine goesL_ (some 80) rfl rfl Try.func43 (by kernel_rfl) rfl #[.pointer (some ⟨g, 0, none⟩), .int .i64 (wrap64 (2 + t103))] rfl zz3 ?_; (with_reducible refine (spec_l01Below.calls g s0_0 x1001_3 x1002_3 (wrap64 (2 + t103)) t121 t122 t123 w0 _ ?side1 ?side2 A52.out).mono ?_); (case side1 => repeat (first | (with_reducible first | exact HI0.out | apply IsS93.alloc | apply IsS93.drewN | apply IsS93.drew | apply IsS93.set_1 | apply IsS93.set_2 | refine IsS93.far ?_ NB0_101.out _ | refine IsS93.far ?_ NB0_102.out _ | refine IsS93.far ?_ NB0_113.out _) | exact HI0.out)); (case side2 => exact zz30); rintro e w76 ⟨rfl, hi, hb, hk⟩; refine ⟨_, rfl, ?_⟩; have n_ := zA8 (Kd.R_mono (Kd.R_keep (IsS93.apart (show IsS93 w0 _ g s0_0 x1001_3 x1002_3 from by repeat (first | (with_reducible first | exact HI0.out | apply IsS93.alloc | apply IsS93.drewN | apply IsS93.drew | apply IsS93.set_1 | apply IsS93.set_2 | refine IsS93.far ?_ NB0_101.out _ | refine IsS93.far ?_ NB0_102.out _ | refine IsS93.far ?_ NB0_113.out _) | exact HI0.out)) zz24 (by decide)) hk (fun _ h => h.2)) (fun _ h => h.1)) (Kd.R_mono (Kd.R_keep (IsS93.apart (show IsS93 w0 _ g s0_0 x1001_3 x1002_3 from by repeat (first | (with_reducible first | exact HI0.out | apply IsS93.alloc | apply IsS93.drewN | apply IsS93.drew | apply IsS93.set_1 | apply IsS93.set_2 | refine IsS93.far ?_ NB0_101.out _ | refine IsS93.far ?_ NB0_102.out _ | refine IsS93.far ?_ NB0_113.out _) | exact HI0.out)) zz25 (by decide)) hk (fun _ h => h.2)) (fun _ h => h.1)) (KeepBut.blk hk (g' := gb101) (o := .cells #[.int .i64 0, .slice none 0 0] 31 (0, 0)) zz0 NB101_0.out (by simp)) (KeepBut.blk hk (g' := gb102) (o := .cells #[.int .i64 x103000_1, u103001] 31 (0, 0)) zz5 NB102_0.out (by simp)) (KeepBut.blk hk (g' := gb113) (o := .cells #[.int .i64 x114000_3, u114001] 31 (0, 0)) zz13 NB113_0.out (by simp)) (KeepBut.trans zz8 hk (.inl rfl)) hb hi; clear HO_103001 HO_114001 BK101 BK102 BK113 HK HB HI0; obtain ⟨HO_103001, HO_114001, BK101, BK102, BK113, HK, HB, HI0⟩ := n_; clear hi hb hk; obtain ⟨Ao77, co77, eo77⟩ := Kd.R_slice HO_114001.out; subst eo77))); have n_ := zA8 (Kd.R_drew HO_103001.out) (Kd.R_drew HO_114001.out) (blk_drew BK101.out) (blk_drew BK102.out) (blk_drew BK113.out) (IsS93.drew HI0.out) (keep_drew HK.out) (below_drew1 HB.out); clear HO_103001 HO_114001 BK101 BK102 BK113 HI0 HK HB; obtain ⟨HO_103001, HO_114001, BK101, BK102, BK113, HI0, HK, HB⟩ := n_; refine start_ (n := 18) (S := fun w' => w'.cell? ⟨gb113, 0, none⟩ = some (.int .i64 x114000_3) ∧ w'.cell? ⟨gb113, 1, none⟩ = some (.slice Ao77 x114001_3.length co77)) (ds := []) (zM 18 0) (by kernel_rfl) rfl rfl ⟨(blk_cell BK113.out 0).trans rfl, (blk_cell BK113.out 1).trans rfl⟩ (fun hHeld => ?_); refine with_tabW spec_l02Draw.tab24 spec_l02Draw.bits24 (fun HT_ HW_ => ?_); generalize w76.drew = w78 at HO_103001 HO_114001 BK101 BK102 BK113 HI0 HK HB hHeld ⊢; refine zQ 1 83 (zM 18 2) ?_
        refine zQ 2 84 (zM 18 6) ?_
        refine zQ 3 85 (zM 18 14) ?_
        refine zQ 4 86 (zM 18 30) ?_
        refine zQ 5 87 (zM 18 62) ?_
        refine zQ 6 88 (zM 18 126) ?_
        refine zQ 9 91 (zM 18 638) ?_
        refine take_ (i := 0) (N := some 82) (v := ?_) (a' := ?_) (zM 18 639) rfl rfl (take_ofW HT_.out HW_.out (by kernel_rfl)) (fun _ _ _ h => h) (Or.inl ⟨by rfl, ?_⟩) hHeld ?_ ?_; rotate_left
        ·rintro w' ⟨s0, s1⟩; exact zzT
        rotate_left
        ·exact zzS
        refine join_ (σ := Value × Nat) 2 (zM 18 65535) (fun s_ => [(89, .int .i64 t124), (93, .tuple #[.agg #[.int .i64 t127, s_.1], .bool false]), (15, .pointer (some ⟨s_.2, 0, none⟩)), (90, .int .i64 (wrap64 ((wrap64 (t121 + 1)) + t124))), (92, .int .i64 (Int.tmod (wrap64 ((wrap64 (t121 + 1)) + t124)) (wrap64 (2 + t103)))), (81, .tuple #[.agg #[.int .i64 t127, s_.1], .bool false]), (94, .agg #[.int .i64 t127, s_.1]), (95, .bool false)]) (fun s_ w' => (w'.cell? ⟨gb113, 0, none⟩ = some (.int .i64 x114000_3) ∧ w'.cell? ⟨gb113, 1, none⟩ = some (.slice Ao77 x114001_3.length co77)) ∧ (Kd.R k67 67 w' w.heap.size (fun k_ => some k_ ≠ (u103001 : Value).ownBlock ∧ some k_ ≠ (.slice Ao77 x114001_3.length co77 : Value).ownBlock) s_.1 t128) ∧ (Kd.R k67 67 w' w.heap.size (fun k_ => some k_ ≠ (s_.1 : Value).ownBlock ∧ some k_ ≠ (.slice Ao77 x114001_3.length co77 : Value).ownBlock) u103001 x103001_1) ∧ (Kd.R k67 67 w' w.heap.size (fun k_ => some k_ ≠ (s_.1 : Value).ownBlock ∧ some k_ ≠ (u103001 : Value).ownBlock) (.slice Ao77 x114001_3.length co77) x114001_3) ∧ (w'.heap[gb101]? = some (.cells #[.int .i64 0, .slice none 0 0] 31 (0, 0))) ∧ (w'.heap[gb102]? = some (.cells #[.int .i64 x103000_1, u103001] 31 (0, 0))) ∧ (w'.heap[gb113]? = some (.cells #[.int .i64 x114000_3, .slice Ao77 x114001_3.length co77] 31 (0, 0))) ∧ (w'.heap[s_.2]? = some (.cells #[.int .i64 0, .slice none 0 0] 31 (0, 0))) ∧ (w.heap.size ≤ s_.2) ∧ (w0.heap.size ≤ s_.2) ∧ (g ≠ s_.2) ∧ (s_.2 ≠ g) ∧ (gb101 ≠ s_.2) ∧ (s_.2 ≠ gb101) ∧ (gb102 ≠ s_.2) ∧ (s_.2 ≠ gb102) ∧ (gb113 ≠ s_.2) ∧ (s_.2 ≠ gb113) ∧ (IsS93 w0 w' g s0_0 t125 t126) ∧ (KeepBut w w' g none) ∧ (Below w0.heap.size w0 w')) ?_ ?_; rotate_left
        ·intro hCont; refine two_ (i := 7) (j := 15) (Ni := some 89) (Nj := some 15) (zM 18 767) (zM 18 33407) rfl rfl rfl rfl (two_of HT_.out (by kernel_rfl)) (by decide) (by decide) (fun K hK => ?_) (fun K hK => ?_)
         ·(skip); refine goes_ Try.func43 (by kernel_rfl) rfl #[.pointer (some ⟨g, 0, none⟩), .int .i64 (wrap64 ((wrap64 (2 + t103)) - 1))] (by rfl) rfl rfl zz3 ?_; (with_reducible refine (spec_l01Below.calls g s0_0 t122 t123 (wrap64 ((wrap64 (2 + t103)) - 1)) t124 t125 t126 w0 _ ?side1 ?side2 A53.out).mono ?_); (case side1 => repeat (first | (with_reducible first | exact HI0.out | apply IsS93.alloc | apply IsS93.drewN | apply IsS93.drew | apply IsS93.set_1 | apply IsS93.set_2 | refine IsS93.far ?_ NB0_101.out _ | refine IsS93.far ?_ NB0_102.out _ | refine IsS93.far ?_ NB0_113.out _) | exact HI0.out)); (case side2 => exact zz30); rintro e w79 ⟨rfl, hi, hb, hk⟩; refine ⟨_, rfl, ?_⟩; have n_ := zA8 (Kd.R_mono (Kd.R_keep (IsS93.apart (show IsS93 w0 _ g s0_0 t122 t123 from by repeat (first | (with_reducible first | exact HI0.out | apply IsS93.alloc | apply IsS93.drewN | apply IsS93.drew | apply IsS93.set_1 | apply IsS93.set_2 | refine IsS93.far ?_ NB0_101.out _ | refine IsS93.far ?_ NB0_102.out _ | refine IsS93.far ?_ NB0_113.out _) | exact HI0.out)) zz24 (by decide)) hk (fun _ h => h.2)) (fun _ h => h.1)) (Kd.R_mono (Kd.R_keep (IsS93.apart (show IsS93 w0 _ g s0_0 t122 t123 from by repeat (first | (with_reducible first | exact HI0.out | apply IsS93.alloc | apply IsS93.drewN | apply IsS93.drew | apply IsS93.set_1 | apply IsS93.set_2 | refine IsS93.far ?_ NB0_101.out _ | refine IsS93.far ?_ NB0_102.out _ | refine IsS93.far ?_ NB0_113.out _) | exact HI0.out)) zz25 (by decide)) hk (fun _ h => h.2)) (fun _ h => h.1)) (KeepBut.blk hk (g' := gb101) (o := .cells #[.int .i64 0, .slice none 0 0] 31 (0, 0)) zz0 NB101_0.out (by simp)) (KeepBut.blk hk (g' := gb102) (o := .cells #[.int .i64 x103000_1, u103001] 31 (0, 0)) zz5 NB102_0.out (by simp)) (KeepBut.blk hk (g' := gb113) (o := .cells #[.int .i64 x114000_3, .slice Ao77 x114001_3.length co77] 31 (0, 0)) zz13 NB113_0.out (by simp)) (KeepBut.trans zz8 hk (.inl rfl)) hb hi; clear HO_103001 HO_114001 BK101 BK102 BK113 HK HB HI0; obtain ⟨HO_103001, HO_114001, BK101, BK102, BK113, HK, HB, HI0⟩ := n_; clear hi hb hk; refine hK.out _ _ ⟨(blk_cell BK113.out 0).trans rfl, (blk_cell BK113.out 1).trans rfl⟩ (fun hHeld => ?_); clear hK K; refine norm_ (a' := ?_) ?_ ?_; rotate_left
          ·show Act.put _ (some 89) _ = _; exact zzS
          refine zQ 8 90 (zM 18 1023) ?_
          refine zQ 10 92 (zM 18 2047) ?_
          refine two_ (i := 11) (j := 15) (Ni := some 93) (Nj := some 15) (zM 18 4095) (zM 18 34815) rfl rfl rfl rfl (two_of HT_.out (by kernel_rfl)) (by decide) (by decide) (fun K hK => ?_) (fun K hK => ?_)
          ·(skip); refine goes_ Try.func83 (by kernel_rfl) rfl #[.agg #[.int .i64 x114000_3, .slice Ao77 x114001_3.length co77], .int .i64 t121, .int .i64 (Int.tmod (wrap64 ((wrap64 (t121 + 1)) + t124)) (wrap64 (2 + t103)))] (by rfl) rfl rfl zz3 ?_; (with_reducible refine (spec_AddEdge.calls k3 x114000_3 _ _ x114001_3 t121 (Int.tmod (wrap64 ((wrap64 (t121 + 1)) + t124)) (wrap64 (2 + t103))) t127 t128 false _ ?side1 ?side2 A55.out).mono ?_); (case side1 => exact zz63); (case side2 => exact (Kd.R_reads' HO_114001.out).2.1); rintro e w80 ⟨v129, rfl, ho0, hb⟩; refine ⟨_, rfl, ?_⟩; have n_ := zA9 (Kd.R_elder' zz24 (Kd.R_base ho0) hb) (Kd.R_elder' zz25 (Kd.R_base ho0) hb) (Kd.R_lower (Kd.R_new' (Kd.R_new' ho0 (Kd.R_lt zz24)) (Kd.R_lt zz25)) (keep_size (w := w) (g := g) (row := none) zz8)) (blk_below (g := gb101) (o := .cells #[.int .i64 0, .slice none 0 0] 31 (0, 0)) zz0 hb) (blk_below (g := gb102) (o := .cells #[.int .i64 x103000_1, u103001] 31 (0, 0)) zz5 hb) (blk_below (g := gb113) (o := .cells #[.int .i64 x114000_3, .slice Ao77 x114001_3.length co77] 31 (0, 0)) zz13 hb) (IsS93.below zz10 hb) (KeepBut.trans zz8 (KeepBut.of_below hb g none) (.inl rfl)) (below_step zz30 hb); clear HO_103001 HO_114001 BK101 BK102 BK113 HI0 HK HB; obtain ⟨HO_103001, HO_114001, HO130, BK101, BK102, BK113, HI0, HK, HB⟩ := n_; clear ho0 hb; refine hK.out _ _ ⟨(blk_cell BK113.out 0).trans rfl, (blk_cell BK113.out 1).trans rfl⟩ (fun hHeld => ?_); clear hK K; refine norm_ (a' := ?_) ?_ ?_; rotate_left
           ·show Act.put _ (some 93) _ = _; exact zzS
           refine zQ 12 81 (zM 18 8191) ?_
           refine zQ 13 94 (zM 18 16383) ?_
           refine zQ 14 95 (zM 18 32767) ?_
           refine one_ (i := 15) (N := some 15) (zM 18 65535) rfl rfl (one_of HT_.out (by kernel_rfl)) (by decide) (fun K hK => ?_); refine box_step ?hg (N := 15) ?hd (cs := #[.int .i64 0, .slice none 0 0]) (t := 31) ?hr ?_; (case hd => rfl); (case hg => rfl); (case hr => exact zz18); intro gb132 hg w81 hbox hb; have n_ := zA20 (Kd.R_below zz24 hb) (Kd.R_below zz25 hb) (Kd.R_below (by (with_reducible repeat (first | apply Kd.R_alloc | apply Kd.R_drewN | apply Kd.R_drew)); exact HO130.out) hb) (blk_below (g := gb101) (o := .cells #[.int .i64 0, .slice none 0 0] 31 (0, 0)) zz0 hb) (blk_below (g := gb102) (o := .cells #[.int .i64 x103000_1, u103001] 31 (0, 0)) zz5 hb) (blk_below (g := gb113) (o := .cells #[.int .i64 x114000_3, .slice Ao77 x114001_3.length co77] 31 (0, 0)) zz13 hb) (IsS93.below zz10 hb) (KeepBut.trans zz8 (KeepBut.of_below hb g none) (.inl rfl)) (below_step zz30 hb) hbox (by rw [hg]; exact (keep_size (w := w) (g := g) (row := none) zz8) : w.heap.size ≤ gb132) (Nat.le_trans HW0.out (by rw [hg]; exact (keep_size (w := w) (g := g) (row := none) zz8) : w.heap.size ≤ gb132) : w0.heap.size ≤ gb132) (zz51 : gb101 ≠ gb132) (zz52 : gb132 ≠ gb101) (zz85 : gb102 ≠ gb132) (zz86 : gb132 ≠ gb102) (by rw [hg]; exact Nat.ne_of_lt (blk_lt (g := gb113) (o := .cells #[.int .i64 x114000_3, .slice Ao77 x114001_3.length co77] 31 (0, 0)) zz13) : gb113 ≠ gb132) (by rw [hg]; exact Nat.ne_of_gt (blk_lt (g := gb113) (o := .cells #[.int .i64 x114000_3, .slice Ao77 x114001_3.length co77] 31 (0, 0)) zz13) : gb132 ≠ gb113) (zz53 : g ≠ gb132) (zz54 : gb132 ≠ g); clear HO_103001 HO_114001 HO130 BK101 BK102 BK113 HI0 HK HB; obtain ⟨HO_103001, HO_114001, HO130, BK101, BK102, BK113, HI0, HK, HB, BK132, GW132, GE132, NB101_132, NB132_101, NB102_132, NB132_102, NB113_132, NB132_113, NB0_132, NB132_0⟩ := n_; clear hb hbox hg; refine hK.out _ _ ⟨(blk_cell BK113.out 0).trans rfl, (blk_cell BK113.out 1).trans rfl⟩ (fun hHeld => ?_); clear hK K; refine norm_ (a' := ?_) ?_ ?_; rotate_left
           ·show Act.put _ (some 15) _ = _; exact zzS
           exact norm_ (by simp only [putAll, Act.put, List.setIfInBounds_toArray, List.set_cons_zero, List.set_cons_succ]) (hCont (v129, gb132) _ ⟨hHeld, zz76, zz73, zz74, zz0, zz5, zz13, zz49, GW132.out, GE132.out, NB0_132.out, NB132_0.out, NB101_132.out, NB132_101.out, NB102_132.out, NB132_102.out, NB113_132.out, NB132_113.out, zz42, zz15, zz28⟩)
          ·(skip); refine box_step ?hg (N := 15) ?hd (cs := #[.int .i64 0, .slice none 0 0]) (t := 31) ?hr ?_; (case hd => rfl); (case hg => rfl); (case hr => exact zz18); intro gb132 hg w80 hbox hb; have n_ := zA19 (Kd.R_below zz24 hb) (Kd.R_below zz25 hb) (blk_below (g := gb101) (o := .cells #[.int .i64 0, .slice none 0 0] 31 (0, 0)) zz0 hb) (blk_below (g := gb102) (o := .cells #[.int .i64 x103000_1, u103001] 31 (0, 0)) zz5 hb) (blk_below (g := gb113) (o := .cells #[.int .i64 x114000_3, .slice Ao77 x114001_3.length co77] 31 (0, 0)) zz13 hb) (IsS93.below zz10 hb) (KeepBut.trans zz8 (KeepBut.of_below hb g none) (.inl rfl)) (below_step zz30 hb) hbox (by rw [hg]; exact (keep_size (w := w) (g := g) (row := none) zz8) : w.heap.size ≤ gb132) (Nat.le_trans HW0.out (by rw [hg]; exact (keep_size (w := w) (g := g) (row := none) zz8) : w.heap.size ≤ gb132) : w0.heap.size ≤ gb132) (zz51 : gb101 ≠ gb132) (zz52 : gb132 ≠ gb101) (zz85 : gb102 ≠ gb132) (zz86 : gb132 ≠ gb102) (by rw [hg]; exact Nat.ne_of_lt (blk_lt (g := gb113) (o := .cells #[.int .i64 x114000_3, .slice Ao77 x114001_3.length co77] 31 (0, 0)) zz13) : gb113 ≠ gb132) (by rw [hg]; exact Nat.ne_of_gt (blk_lt (g := gb113) (o := .cells #[.int .i64 x114000_3, .slice Ao77 x114001_3.length co77] 31 (0, 0)) zz13) : gb132 ≠ gb113) (zz53 : g ≠ gb132) (zz54 : gb132 ≠ g); clear HO_103001 HO_114001 BK101 BK102 BK113 HI0 HK HB; obtain ⟨HO_103001, HO_114001, BK101, BK102, BK113, HI0, HK, HB, BK132, GW132, GE132, NB101_132, NB132_101, NB102_132, NB132_102, NB113_132, NB132_113, NB0_132, NB132_0⟩ := n_; clear hb hbox hg; refine hK.out _ _ ⟨(blk_cell BK113.out 0).trans rfl, (blk_cell BK113.out 1).trans rfl⟩ (fun hHeld => ?_); clear hK K; refine norm_ (a' := ?_) ?_ ?_; rotate_left
           ·show Act.put _ (some 15) _ = _; exact zzS
           refine one_ (i := 11) (N := some 93) (zM 18 36863) rfl rfl (one_of HT_.out (by kernel_rfl)) (by decide) (fun K hK => ?_); refine goes_ Try.func83 (by kernel_rfl) rfl #[.agg #[.int .i64 x114000_3, .slice Ao77 x114001_3.length co77], .int .i64 t121, .int .i64 (Int.tmod (wrap64 ((wrap64 (t121 + 1)) + t124)) (wrap64 (2 + t103)))] (by rfl) rfl rfl zz3 ?_; (with_reducible refine (spec_AddEdge.calls k3 x114000_3 _ _ x114001_3 t121 (Int.tmod (wrap64 ((wrap64 (t121 + 1)) + t124)) (wrap64 (2 + t103))) t127 t128 false _ ?side1 ?side2 A55.out).mono ?_); (case side1 => exact zz63); (case side2 => exact (Kd.R_reads' HO_114001.out).2.1); rintro e w81 ⟨v129, rfl, ho0, hb⟩; refine ⟨_, rfl, ?_⟩; have n_ := zA10 (Kd.R_elder' zz24 (Kd.R_base ho0) hb) (Kd.R_elder' zz25 (Kd.R_base ho0) hb) (Kd.R_lower (Kd.R_new' (Kd.R_new' ho0 (Kd.R_lt zz24)) (Kd.R_lt zz25)) (keep_size (w := w) (g := g) (row := none) zz15)) (blk_below (g := gb101) (o := .cells #[.int .i64 0, .slice none 0 0] 31 (0, 0)) zz0 hb) (blk_below (g := gb102) (o := .cells #[.int .i64 x103000_1, u103001] 31 (0, 0)) zz5 hb) (blk_below (g := gb113) (o := .cells #[.int .i64 x114000_3, .slice Ao77 x114001_3.length co77] 31 (0, 0)) zz13 hb) (IsS93.below zz32 hb) (blk_below (g := gb132) (o := .cells #[.int .i64 0, .slice none 0 0] 31 (0, 0)) zz49 hb) (KeepBut.trans zz15 (KeepBut.of_below hb g none) (.inl rfl)) (below_step zz28 hb); clear HO_103001 HO_114001 BK101 BK102 BK113 HI0 BK132 HK HB; obtain ⟨HO_103001, HO_114001, HO130, BK101, BK102, BK113, HI0, BK132, HK, HB⟩ := n_; clear ho0 hb; refine hK.out _ _ ⟨(blk_cell BK113.out 0).trans rfl, (blk_cell BK113.out 1).trans rfl⟩ (fun hHeld => ?_); clear hK K; refine norm_ (a' := ?_) ?_ ?_; rotate_left
           ·show Act.put _ (some 93) _ = _; exact zzS
           refine zQ 12 81 (zM 18 40959) ?_
           refine zQ 13 94 (zM 18 49151) ?_
           refine zQ 14 95 (zM 18 65535) ?_
           exact norm_ (by simp only [putAll, Act.put, List.setIfInBounds_toArray, List.set_cons_zero, List.set_cons_succ]) (hCont (v129, gb132) _ ⟨hHeld, zz76, zz73, zz74, zz0, zz5, zz13, zz49, GW132.out, GE132.out, NB0_132.out, NB132_0.out, NB101_132.out, NB132_101.out, NB102_132.out, NB132_102.out, NB113_132.out, NB132_113.out, zz42, zz15, zz28⟩)
         ·(skip); refine box_step ?hg (N := 15) ?hd (cs := #[.int .i64 0, .slice none 0 0]) (t := 31) ?hr ?_; (case hd => rfl); (case hg => rfl); (case hr => exact zz18); intro gb132 hg w79 hbox hb; have n_ := zA19 (Kd.R_below zz24 hb) (Kd.R_below zz25 hb) (blk_below (g := gb101) (o := .cells #[.int .i64 0, .slice none 0 0] 31 (0, 0)) zz0 hb) (blk_below (g := gb102) (o := .cells #[.int .i64 x103000_1, u103001] 31 (0, 0)) zz5 hb) (blk_below (g := gb113) (o := .cells #[.int .i64 x114000_3, .slice Ao77 x114001_3.length co77] 31 (0, 0)) zz13 hb) (IsS93.below zz10 hb) (KeepBut.trans zz8 (KeepBut.of_below hb g none) (.inl rfl)) (below_step zz30 hb) hbox (by rw [hg]; exact (keep_size (w := w) (g := g) (row := none) zz8) : w.heap.size ≤ gb132) (Nat.le_trans HW0.out (by rw [hg]; exact (keep_size (w := w) (g := g) (row := none) zz8) : w.heap.size ≤ gb132) : w0.heap.size ≤ gb132) (zz51 : gb101 ≠ gb132) (zz52 : gb132 ≠ gb101) (zz85 : gb102 ≠ gb132) (zz86 : gb132 ≠ gb102) (by rw [hg]; exact Nat.ne_of_lt (blk_lt (g := gb113) (o := .cells #[.int .i64 x114000_3, .slice Ao77 x114001_3.length co77] 31 (0, 0)) zz13) : gb113 ≠ gb132) (by rw [hg]; exact Nat.ne_of_gt (blk_lt (g := gb113) (o := .cells #[.int .i64 x114000_3, .slice Ao77 x114001_3.length co77] 31 (0, 0)) zz13) : gb132 ≠ gb113) (zz123 : g ≠ gb132) (zz124 : gb132 ≠ g); clear HO_103001 HO_114001 BK101 BK102 BK113 HI0 HK HB; obtain ⟨HO_103001, HO_114001, BK101, BK102, BK113, HI0, HK, HB, BK132, GW132, GE132, NB101_132, NB132_101, NB102_132, NB132_102, NB113_132, NB132_113, NB0_132, NB132_0⟩ := n_; clear hb hbox hg; refine hK.out _ _ ⟨(blk_cell BK113.out 0).trans rfl, (blk_cell BK113.out 1).trans rfl⟩ (fun hHeld => ?_); clear hK K; refine norm_ (a' := ?_) ?_ ?_; rotate_left
          ·show Act.put _ (some 15) _ = _; exact zzS
          refine one_ (i := 7) (N := some 89) (zM 18 33535) rfl rfl (one_of HT_.out (by kernel_rfl)) (by decide) (fun K hK => ?_); refine goes_ Try.func43 (by kernel_rfl) rfl #[.pointer (some ⟨g, 0, none⟩), .int .i64 (wrap64 ((wrap64 (2 + t103)) - 1))] (by rfl) rfl rfl zz3 ?_; (with_reducible refine (spec_l01Below.calls g s0_0 t122 t123 (wrap64 ((wrap64 (2 + t103)) - 1)) t124 t125 t126 w0 _ ?side1 ?side2 A53.out).mono ?_); (case side1 => repeat (first | (with_reducible first | exact HI0.out | apply IsS93.alloc | apply IsS93.drewN | apply IsS93.drew | apply IsS93.set_1 | apply IsS93.set_2 | refine IsS93.far ?_ NB0_101.out _ | refine IsS93.far ?_ NB0_102.out _ | refine IsS93.far ?_ NB0_113.out _ | refine IsS93.far ?_ NB0_132.out _) | exact HI0.out)); (case side2 => repeat (first | (with_reducible first | exact HB.out | apply below_alloc | apply pw_below_drewN | apply below_drew1 | refine below_set ?_ (IsS93.ge HI0.out) | refine below_set ?_ GE101.out | refine below_set ?_ GE102.out | refine below_set ?_ GE113.out | refine below_set ?_ GE132.out) | exact HB.out)); rintro e w80 ⟨rfl, hi, hb, hk⟩; refine ⟨_, rfl, ?_⟩; have n_ := zA9 (Kd.R_mono (Kd.R_keep (IsS93.apart (show IsS93 w0 _ g s0_0 t122 t123 from by repeat (first | (with_reducible first | exact HI0.out | apply IsS93.alloc | apply IsS93.drewN | apply IsS93.drew | apply IsS93.set_1 | apply IsS93.set_2 | refine IsS93.far ?_ NB0_101.out _ | refine IsS93.far ?_ NB0_102.out _ | refine IsS93.far ?_ NB0_113.out _ | refine IsS93.far ?_ NB0_132.out _) | exact HI0.out)) zz24 (by decide)) hk (fun _ h => h.2)) (fun _ h => h.1)) (Kd.R_mono (Kd.R_keep (IsS93.apart (show IsS93 w0 _ g s0_0 t122 t123 from by repeat (first | (with_reducible first | exact HI0.out | apply IsS93.alloc | apply IsS93.drewN | apply IsS93.drew | apply IsS93.set_1 | apply IsS93.set_2 | refine IsS93.far ?_ NB0_101.out _ | refine IsS93.far ?_ NB0_102.out _ | refine IsS93.far ?_ NB0_113.out _ | refine IsS93.far ?_ NB0_132.out _) | exact HI0.out)) zz25 (by decide)) hk (fun _ h => h.2)) (fun _ h => h.1)) (KeepBut.blk hk (g' := gb101) (o := .cells #[.int .i64 0, .slice none 0 0] 31 (0, 0)) zz0 NB101_0.out (by simp)) (KeepBut.blk hk (g' := gb102) (o := .cells #[.int .i64 x103000_1, u103001] 31 (0, 0)) zz5 NB102_0.out (by simp)) (KeepBut.blk hk (g' := gb113) (o := .cells #[.int .i64 x114000_3, .slice Ao77 x114001_3.length co77] 31 (0, 0)) zz13 NB113_0.out (by simp)) (KeepBut.blk hk (g' := gb132) (o := .cells #[.int .i64 0, .slice none 0 0] 31 (0, 0)) zz49 NB132_0.out (by simp)) (KeepBut.trans zz15 hk (.inl rfl)) hb hi; clear HO_103001 HO_114001 BK101 BK102 BK113 BK132 HK HB HI0; obtain ⟨HO_103001, HO_114001, BK101, BK102, BK113, BK132, HK, HB, HI0⟩ := n_; clear hi hb hk; refine hK.out _ _ ⟨(blk_cell BK113.out 0).trans rfl, (blk_cell BK113.out 1).trans rfl⟩ (fun hHeld => ?_); clear hK K; refine norm_ (a' := ?_) ?_ ?_; rotate_left
          ·show Act.put _ (some 89) _ = _; exact zzS
          refine zQ 8 90 (zM 18 33791) ?_
          refine zQ 10 92 (zM 18 34815) ?_
          refine one_ (i := 11) (N := some 93) (zM 18 36863) rfl rfl (one_of HT_.out (by kernel_rfl)) (by decide) (fun K hK => ?_); refine goes_ Try.func83 (by kernel_rfl) rfl #[.agg #[.int .i64 x114000_3, .slice Ao77 x114001_3.length co77], .int .i64 t121, .int .i64 (Int.tmod (wrap64 ((wrap64 (t121 + 1)) + t124)) (wrap64 (2 + t103)))] (by rfl) rfl rfl zz3 ?_; (with_reducible refine (spec_AddEdge.calls k3 x114000_3 _ _ x114001_3 t121 (Int.tmod (wrap64 ((wrap64 (t121 + 1)) + t124)) (wrap64 (2 + t103))) t127 t128 false _ ?side1 ?side2 A55.out).mono ?_); (case side1 => exact zz63); (case side2 => exact (Kd.R_reads' HO_114001.out).2.1); rintro e w81 ⟨v129, rfl, ho0, hb⟩; refine ⟨_, rfl, ?_⟩; have n_ := zA10 (Kd.R_elder' zz24 (Kd.R_base ho0) hb) (Kd.R_elder' zz25 (Kd.R_base ho0) hb) (Kd.R_lower (Kd.R_new' (Kd.R_new' ho0 (Kd.R_lt zz24)) (Kd.R_lt zz25)) (keep_size (w := w) (g := g) (row := none) zz15)) (blk_below (g := gb101) (o := .cells #[.int .i64 0, .slice none 0 0] 31 (0, 0)) zz0 hb) (blk_below (g := gb102) (o := .cells #[.int .i64 x103000_1, u103001] 31 (0, 0)) zz5 hb) (blk_below (g := gb113) (o := .cells #[.int .i64 x114000_3, .slice Ao77 x114001_3.length co77] 31 (0, 0)) zz13 hb) (IsS93.below zz32 hb) (blk_below (g := gb132) (o := .cells #[.int .i64 0, .slice none 0 0] 31 (0, 0)) zz49 hb) (KeepBut.trans zz15 (KeepBut.of_below hb g none) (.inl rfl)) (below_step zz28 hb); clear HO_103001 HO_114001 BK101 BK102 BK113 HI0 BK132 HK HB; obtain ⟨HO_103001, HO_114001, HO130, BK101, BK102, BK113, HI0, BK132, HK, HB⟩ := n_; clear ho0 hb; refine hK.out _ _ ⟨(blk_cell BK113.out 0).trans rfl, (blk_cell BK113.out 1).trans rfl⟩ (fun hHeld => ?_); clear hK K; refine norm_ (a' := ?_) ?_ ?_; rotate_left
          ·show Act.put _ (some 93) _ = _; exact zzS
          refine zQ 12 81 (zM 18 40959) ?_
          refine zQ 13 94 (zM 18 49151) ?_
          refine zQ 14 95 (zM 18 65535) ?_
          exact norm_ (by simp only [putAll, Act.put, List.setIfInBounds_toArray, List.set_cons_zero, List.set_cons_succ]) (hCont (v129, gb132) _ ⟨hHeld, zz76, zz73, zz74, zz0, zz5, zz13, zz49, GW132.out, GE132.out, NB0_132.out, NB132_0.out, NB101_132.out, NB132_101.out, NB102_132.out, NB132_102.out, NB113_132.out, NB132_113.out, zz42, zz15, zz28⟩)
        rintro ⟨v129, gb132⟩ w82 ⟨hS_, h0_, h1_, h2_, h3_, h4_, h5_, h6_, h7_, h8_, h9_, h10_, h11_, h12_, h13_, h14_, h15_, h16_, h17_, h18_, h19_⟩; have n0_ : Aside0 (Kd.R k67 67 w82 w.heap.size (fun k_ => some k_ ≠ (u103001 : Value).ownBlock ∧ some k_ ≠ (.slice Ao77 x114001_3.length co77 : Value).ownBlock) v129 t128) := ⟨h0_⟩; have n1_ : Aside0 (Kd.R k67 67 w82 w.heap.size (fun k_ => some k_ ≠ (v129 : Value).ownBlock ∧ some k_ ≠ (.slice Ao77 x114001_3.length co77 : Value).ownBlock) u103001 x103001_1) := ⟨h1_⟩; have n2_ : Aside0 (Kd.R k67 67 w82 w.heap.size (fun k_ => some k_ ≠ (v129 : Value).ownBlock ∧ some k_ ≠ (u103001 : Value).ownBlock) (.slice Ao77 x114001_3.length co77) x114001_3) := ⟨h2_⟩; have n3_ : Aside0 (w82.heap[gb101]? = some (.cells #[.int .i64 0, .slice none 0 0] 31 (0, 0))) := ⟨h3_⟩; have n4_ : Aside0 (w82.heap[gb102]? = some (.cells #[.int .i64 x103000_1, u103001] 31 (0, 0))) := ⟨h4_⟩; have n5_ : Aside0 (w82.heap[gb113]? = some (.cells #[.int .i64 x114000_3, .slice Ao77 x114001_3.length co77] 31 (0, 0))) := ⟨h5_⟩; have n6_ : Aside0 (w82.heap[gb132]? = some (.cells #[.int .i64 0, .slice none 0 0] 31 (0, 0))) := ⟨h6_⟩; have n7_ : Aside0 (w.heap.size ≤ gb132) := ⟨h7_⟩; have n8_ : Aside0 (w0.heap.size ≤ gb132) := ⟨h8_⟩; have n9_ : Aside0 (g ≠ gb132) := ⟨h9_⟩; have n10_ : Aside0 (gb132 ≠ g) := ⟨h10_⟩; have n11_ : Aside0 (gb101 ≠ gb132) := ⟨h11_⟩; have n12_ : Aside0 (gb132 ≠ gb101) := ⟨h12_⟩; have n13_ : Aside0 (gb102 ≠ gb132) := ⟨h13_⟩; have n14_ : Aside0 (gb132 ≠ gb102) := ⟨h14_⟩; have n15_ : Aside0 (gb113 ≠ gb132) := ⟨h15_⟩; have n16_ : Aside0 (gb132 ≠ gb113) := ⟨h16_⟩; have n17_ : Aside0 (IsS93 w0 w82 g s0_0 t125 t126) := ⟨h17_⟩; have n18_ : Aside0 (KeepBut w w82 g none) := ⟨h18_⟩; have n19_ : Aside0 (Below w0.heap.size w0 w82) := ⟨h19_⟩; clear HO_103001; clear HO_114001; clear BK101; clear BK102; clear BK113; clear HI0; clear HK; clear HB; clear h0_ h1_ h2_ h3_ h4_ h5_ h6_ h7_ h8_ h9_ h10_ h11_ h12_ h13_ h14_ h15_ h16_ h17_ h18_ h19_; have HO130 := n0_; have HO_103001 := n1_; have HO_114001 := n2_; have BK101 := n3_; have BK102 := n4_; have BK113 := n5_; have BK132 := n6_; have GW132 := n7_; have GE132 := n8_; have NB0_132 := n9_; have NB132_0 := n10_; have NB101_132 := n11_; have NB132_101 := n12_; have NB102_132 := n13_; have NB132_102 := n14_; have NB113_132 := n15_; have NB132_113 := n16_; have HI0 := n17_; have HK := n18_; have HB := n19_; clear n0_ n1_ n2_ n3_ n4_ n5_ n6_ n7_ n8_ n9_ n10_ n11_ n12_ n13_ n14_ n15_ n16_ n17_ n18_ n19_; have hHeld : w82.cell? ⟨gb113, 0, none⟩ = some (.int .i64 x114000_3) ∧ w82.cell? ⟨gb113, 1, none⟩ = some (.slice Ao77 x114001_3.length co77) := hS_; obtain ⟨Ao84, co84, eo84⟩ := Kd.R_slice HO130.out; (first | subst eo84 | (injection eo84 with f1_ f2_ f3_; have f4_ := f1_.symm; have f5_ := f3_.symm; clear f1_ f2_ f3_; subst f4_; subst f5_)); refine norm_ (a' := ?_) ?_ ?_; rotate_left
        ·simp only [putAll, Act.put, List.setIfInBounds_toArray, List.set_cons_zero, List.set_cons_succ]; rfl
        refine one_ (i := 16) (N := none) (zM 18 131071) rfl rfl (one_of HT_.out (by kernel_rfl)) (by decide) (fun K hK => ?_); have hs83 : w82.cell? ⟨gb132, 0, none⟩ = some (.int .i64 0) := (blk_cell BK132.out 0).trans rfl; have hfs83 := blk_frozen BK132.out 0; have hns83_0 := NB101_132.out; have hns83_1 := NB102_132.out; have hns83_2 := NB113_132.out; have hms83_0 := NB132_101.out; have hms83_1 := NB132_102.out; have hms83_2 := NB132_113.out; have hs85 : w82.cell? ⟨gb132, 1, none⟩ = some (.slice none 0 0) := (blk_cell BK132.out 1).trans rfl; have hfs85 := blk_frozen BK132.out 1; have hns85_0 := NB101_132.out; have hns85_1 := NB102_132.out; have hns85_2 := NB113_132.out; have hms85_0 := NB132_101.out; have hms85_1 := NB132_102.out; have hms85_2 := NB132_113.out; refine skip_ (w1 := ?_) (by rfl) rfl ?_ ?_; rotate_left
        ·go_simp; rfl
        refine hK.out _ _ ⟨((cell_far (p := ⟨gb132, _, none⟩) NB113_132.out _).trans (((cell_far (p := ⟨gb132, _, none⟩) NB113_132.out _).trans (hHeld.1)))), ((cell_far (p := ⟨gb132, _, none⟩) NB113_132.out _).trans (((cell_far (p := ⟨gb132, _, none⟩) NB113_132.out _).trans (hHeld.2))))⟩ (fun hHeld => ?_); clear hK K; refine zQ 17 16 (zM 18 262143) ?_
        refine done_ (done_of HT_.out (by kernel_rfl)) ?_; (try go_wp2); go_roundg k3; (case measure => have := HK1.out; have := HK2.out; have := HK3.out; omega); case rel => exact ⟨(wrap64 (x13_3 - 1)), (t125), (t126), (x114000_3), (x114001_3), (.slice Ao77 x114001_3.length co77), zz7, H', ⟨by have := HK1.out; have := HK2.out; have := HK3.out; omega⟩, ⟨by (with_reducible repeat (first | apply Kd.R_alloc | apply Kd.R_drewN | apply Kd.R_drew)); exact Kd.R_mono (Kd.R_far (p := ⟨gb132, 1, none⟩) (Kd.R_far (p := ⟨gb132, 0, none⟩) (Kd.R_types HO_103001.out BK132.out (by decide)) (fun _ hk => hk.2) (.int .i64 t127)) (fun _ hk => hk.2) (.slice Ao84 t128.length co84)) (fun _ hk => hk.1.2)⟩, ⟨by (with_reducible repeat (first | apply Kd.R_alloc | apply Kd.R_drewN | apply Kd.R_drew)); exact Kd.R_mono (Kd.R_far (p := ⟨gb132, 1, none⟩) (Kd.R_far (p := ⟨gb132, 0, none⟩) (Kd.R_types HO_114001.out BK132.out (by decide)) (fun _ hk => hk.2) (.int .i64 t127)) (fun _ hk => hk.2) (.slice Ao84 t128.length co84)) (fun _ hk => hk.1.2)⟩, ⟨by (with_reducible repeat (first | refine blk_drewN ?_ _ | refine blk_drew ?_ | refine blk_alloc ?_ _)); refine blk_far ?_ NB101_132.out _; (with_reducible repeat (first | refine blk_drewN ?_ _ | refine blk_drew ?_ | refine blk_alloc ?_ _)); refine blk_far ?_ NB101_132.out _; (with_reducible repeat (first | refine blk_drewN ?_ _ | refine blk_drew ?_ | refine blk_alloc ?_ _)); exact BK101.out⟩, ⟨by (with_reducible repeat (first | refine blk_drewN ?_ _ | refine blk_drew ?_ | refine blk_alloc ?_ _)); refine blk_far ?_ NB102_132.out _; (with_reducible repeat (first | refine blk_drewN ?_ _ | refine blk_drew ?_ | refine blk_alloc ?_ _)); refine blk_far ?_ NB102_132.out _; (with_reducible repeat (first | refine blk_drewN ?_ _ | refine blk_drew ?_ | refine blk_alloc ?_ _)); exact BK102.out⟩, ⟨by (with_reducible repeat (first | refine blk_drewN ?_ _ | refine blk_drew ?_ | refine blk_alloc ?_ _)); refine blk_far ?_ NB113_132.out _; (with_reducible repeat (first | refine blk_drewN ?_ _ | refine blk_drew ?_ | refine blk_alloc ?_ _)); refine blk_far ?_ NB113_132.out _; (with_reducible repeat (first | refine blk_drewN ?_ _ | refine blk_drew ?_ | refine blk_alloc ?_ _)); exact BK113.out⟩, ⟨by repeat (first | (with_reducible first | exact HI0.out | apply IsS93.alloc | apply IsS93.drewN | apply IsS93.drew | apply IsS93.set_1 | apply IsS93.set_2 | refine IsS93.far ?_ NB0_101.out _ | refine IsS93.far ?_ NB0_102.out _ | refine IsS93.far ?_ NB0_113.out _ | refine IsS93.far ?_ NB0_132.out _) | exact HI0.out)⟩, ⟨by repeat (first | (with_reducible first | exact HK.out | apply KeepBut.set_ | apply keep_drewN | apply keep_drew | apply keep_alloc | refine keep_far ?_ GW101.out _ | refine keep_far ?_ GW102.out _ | refine keep_far ?_ GW113.out _ | refine keep_far ?_ GW132.out _) | exact HK.out)⟩, ⟨by repeat (first | (with_reducible first | exact HB.out | apply below_alloc | apply pw_below_drewN | apply below_drew1 | refine below_set ?_ (IsS93.ge HI0.out) | refine below_set ?_ GE101.out | refine below_set ?_ GE102.out | refine below_set ?_ GE113.out | refine below_set ?_ GE132.out) | exact HB.out)⟩⟩
       subst c56; rw [if_pos rfl] at H; have H' := Aside0.mk H; clear H; (try go_wp2_with (first | ((with_reducible refine gate_callee (f := 43) rfl ?_); refine goesL_ (some 80) rfl rfl Try.func43 (by kernel_rfl) rfl #[.pointer (some ⟨g, 0, none⟩), .int .i64 (wrap64 (2 + t103))] rfl zz3 ?_; (with_reducible refine (spec_l01Below.calls g s0_0 x1001_3 x1002_3 (wrap64 (2 + t103)) t121 t122 t123 w0 _ ?side1 ?side2 A52.out).mono ?_); (case side1 => repeat (first | (with_reducible first | exact HI0.out | apply IsS93.alloc | apply IsS93.drewN | apply IsS93.drew | apply IsS93.set_1 | apply IsS93.set_2 | refine IsS93.far ?_ NB0_101.out _ | refine IsS93.far ?_ NB0_102.out _ | refine IsS93.far ?_ NB0_113.out _) | exact HI0.out)); (case side2 => exact zz30); rintro e w57 ⟨rfl, hi, hb, hk⟩; refine ⟨_, rfl, ?_⟩; have n_ := zA8 (Kd.R_mono (Kd.R_keep (IsS93.apart (show IsS93 w0 _ g s0_0 x1001_3 x1002_3 from by repeat (first | (with_reducible first | exact HI0.out | apply IsS93.alloc | apply IsS93.drewN | apply IsS93.drew | apply IsS93.set_1 | apply IsS93.set_2 | refine IsS93.far ?_ NB0_101.out _ | refine IsS93.far ?_ NB0_102.out _ | refine IsS93.far ?_ NB0_113.out _) | exact HI0.out)) zz24 (by decide)) hk (fun _ h => h.2)) (fun _ h => h.1)) (Kd.R_mono (Kd.R_keep (IsS93.apart (show IsS93 w0 _ g s0_0 x1001_3 x1002_3 from by repeat (first | (with_reducible first | exact HI0.out | apply IsS93.alloc | apply IsS93.drewN | apply IsS93.drew | apply IsS93.set_1 | apply IsS93.set_2 | refine IsS93.far ?_ NB0_101.out _ | refine IsS93.far ?_ NB0_102.out _ | refine IsS93.far ?_ NB0_113.out _) | exact HI0.out)) zz25 (by decide)) hk (fun _ h => h.2)) (fun _ h => h.1)) (KeepBut.blk hk (g' := gb101) (o := .cells #[.int .i64 0, .slice none 0 0] 31 (0, 0)) zz0 NB101_0.out (by simp)) (KeepBut.blk hk (g' := gb102) (o := .cells #[.int .i64 x103000_1, u103001] 31 (0, 0)) zz5 NB102_0.out (by simp)) (KeepBut.blk hk (g' := gb113) (o := .cells #[.int .i64 x114000_3, u114001] 31 (0, 0)) zz13 NB113_0.out (by simp)) (KeepBut.trans zz8 hk (.inl rfl)) hb hi; clear HO_103001 HO_114001 BK101 BK102 BK113 HK HB HI0; obtain ⟨HO_103001, HO_114001, BK101, BK102, BK113, HK, HB, HI0⟩ := n_; clear hi hb hk; obtain ⟨Ao58, co58, eo58⟩ := Kd.R_slice HO_114001.out; subst eo58))); have n_ := zA8 (Kd.R_drew HO_103001.out) (Kd.R_drew HO_114001.out) (blk_drew BK101.out) (blk_drew BK102.out) (blk_drew BK113.out) (IsS93.drew HI0.out) (keep_drew HK.out) (below_drew1 HB.out); clear HO_103001 HO_114001 BK101 BK102 BK113 HI0 HK HB; obtain ⟨HO_103001, HO_114001, BK101, BK102, BK113, HI0, HK, HB⟩ := n_; refine start_ (n := 18) (S := fun w' => w'.cell? ⟨gb113, 0, none⟩ = some (.int .i64 x114000_3) ∧ w'.cell? ⟨gb113, 1, none⟩ = some (.slice Ao58 x114001_3.length co58)) (ds := []) (zM 18 0) (by kernel_rfl) rfl rfl ⟨(blk_cell BK113.out 0).trans rfl, (blk_cell BK113.out 1).trans rfl⟩ (fun hHeld => ?_); refine with_tabW spec_l02Draw.tab24 spec_l02Draw.bits24 (fun HT_ HW_ => ?_); generalize w57.drew = w59 at HO_103001 HO_114001 BK101 BK102 BK113 HI0 HK HB hHeld ⊢; refine zQ 1 83 (zM 18 2) ?_
       refine zQ 2 84 (zM 18 6) ?_
       refine zQ 3 85 (zM 18 14) ?_
       refine zQ 4 86 (zM 18 30) ?_
       refine zQ 5 87 (zM 18 62) ?_
       refine zQ 6 88 (zM 18 126) ?_
       refine zQ 9 91 (zM 18 638) ?_
       refine take_ (i := 0) (N := some 82) (v := ?_) (a' := ?_) (zM 18 639) rfl rfl (take_ofW HT_.out HW_.out (by kernel_rfl)) (fun _ _ _ h => h) (Or.inl ⟨by rfl, ?_⟩) hHeld ?_ ?_; rotate_left
       ·rintro w' ⟨s0, s1⟩; exact zzT
       rotate_left
       ·exact zzS
       refine join_ (σ := Value × Nat) 2 (zM 18 65535) (fun s_ => [(89, .int .i64 t124), (93, .tuple #[.agg #[.int .i64 t127, s_.1], .bool true]), (15, .pointer (some ⟨s_.2, 0, none⟩)), (90, .int .i64 (wrap64 ((wrap64 (t121 + 1)) + t124))), (92, .int .i64 (Int.tmod (wrap64 ((wrap64 (t121 + 1)) + t124)) (wrap64 (2 + t103)))), (81, .tuple #[.agg #[.int .i64 t127, s_.1], .bool true]), (94, .agg #[.int .i64 t127, s_.1]), (95, .bool true)]) (fun s_ w' => (w'.cell? ⟨gb113, 0, none⟩ = some (.int .i64 x114000_3) ∧ w'.cell? ⟨gb113, 1, none⟩ = some (.slice Ao58 x114001_3.length co58)) ∧ (Kd.R k67 67 w' w.heap.size (fun k_ => some k_ ≠ (u103001 : Value).ownBlock ∧ some k_ ≠ (.slice Ao58 x114001_3.length co58 : Value).ownBlock) s_.1 t128) ∧ (Kd.R k67 67 w' w.heap.size (fun k_ => some k_ ≠ (s_.1 : Value).ownBlock ∧ some k_ ≠ (.slice Ao58 x114001_3.length co58 : Value).ownBlock) u103001 x103001_1) ∧ (Kd.R k67 67 w' w.heap.size (fun k_ => some k_ ≠ (s_.1 : Value).ownBlock ∧ some k_ ≠ (u103001 : Value).ownBlock) (.slice Ao58 x114001_3.length co58) x114001_3) ∧ (w'.heap[gb101]? = some (.cells #[.int .i64 0, .slice none 0 0] 31 (0, 0))) ∧ (w'.heap[gb102]? = some (.cells #[.int .i64 x103000_1, u103001] 31 (0, 0))) ∧ (w'.heap[gb113]? = some (.cells #[.int .i64 x114000_3, .slice Ao58 x114001_3.length co58] 31 (0, 0))) ∧ (w'.heap[s_.2]? = some (.cells #[.int .i64 0, .slice none 0 0] 31 (0, 0))) ∧ (w.heap.size ≤ s_.2) ∧ (w0.heap.size ≤ s_.2) ∧ (g ≠ s_.2) ∧ (s_.2 ≠ g) ∧ (gb101 ≠ s_.2) ∧ (s_.2 ≠ gb101) ∧ (gb102 ≠ s_.2) ∧ (s_.2 ≠ gb102) ∧ (gb113 ≠ s_.2) ∧ (s_.2 ≠ gb113) ∧ (IsS93 w0 w' g s0_0 t125 t126) ∧ (KeepBut w w' g none) ∧ (Below w0.heap.size w0 w')) ?_ ?_; rotate_left
       ·intro hCont; refine two_ (i := 7) (j := 15) (Ni := some 89) (Nj := some 15) (zM 18 767) (zM 18 33407) rfl rfl rfl rfl (two_of HT_.out (by kernel_rfl)) (by decide) (by decide) (fun K hK => ?_) (fun K hK => ?_)
        ·(skip); refine goes_ Try.func43 (by kernel_rfl) rfl #[.pointer (some ⟨g, 0, none⟩), .int .i64 (wrap64 ((wrap64 (2 + t103)) - 1))] (by rfl) rfl rfl zz3 ?_; (with_reducible refine (spec_l01Below.calls g s0_0 t122 t123 (wrap64 ((wrap64 (2 + t103)) - 1)) t124 t125 t126 w0 _ ?side1 ?side2 A53.out).mono ?_); (case side1 => repeat (first | (with_reducible first | exact HI0.out | apply IsS93.alloc | apply IsS93.drewN | apply IsS93.drew | apply IsS93.set_1 | apply IsS93.set_2 | refine IsS93.far ?_ NB0_101.out _ | refine IsS93.far ?_ NB0_102.out _ | refine IsS93.far ?_ NB0_113.out _) | exact HI0.out)); (case side2 => exact zz30); rintro e w60 ⟨rfl, hi, hb, hk⟩; refine ⟨_, rfl, ?_⟩; have n_ := zA8 (Kd.R_mono (Kd.R_keep (IsS93.apart (show IsS93 w0 _ g s0_0 t122 t123 from by repeat (first | (with_reducible first | exact HI0.out | apply IsS93.alloc | apply IsS93.drewN | apply IsS93.drew | apply IsS93.set_1 | apply IsS93.set_2 | refine IsS93.far ?_ NB0_101.out _ | refine IsS93.far ?_ NB0_102.out _ | refine IsS93.far ?_ NB0_113.out _) | exact HI0.out)) zz24 (by decide)) hk (fun _ h => h.2)) (fun _ h => h.1)) (Kd.R_mono (Kd.R_keep (IsS93.apart (show IsS93 w0 _ g s0_0 t122 t123 from by repeat (first | (with_reducible first | exact HI0.out | apply IsS93.alloc | apply IsS93.drewN | apply IsS93.drew | apply IsS93.set_1 | apply IsS93.set_2 | refine IsS93.far ?_ NB0_101.out _ | refine IsS93.far ?_ NB0_102.out _ | refine IsS93.far ?_ NB0_113.out _) | exact HI0.out)) zz25 (by decide)) hk (fun _ h => h.2)) (fun _ h => h.1)) (KeepBut.blk hk (g' := gb101) (o := .cells #[.int .i64 0, .slice none 0 0] 31 (0, 0)) zz0 NB101_0.out (by simp)) (KeepBut.blk hk (g' := gb102) (o := .cells #[.int .i64 x103000_1, u103001] 31 (0, 0)) zz5 NB102_0.out (by simp)) (KeepBut.blk hk (g' := gb113) (o := .cells #[.int .i64 x114000_3, .slice Ao58 x114001_3.length co58] 31 (0, 0)) zz13 NB113_0.out (by simp)) (KeepBut.trans zz8 hk (.inl rfl)) hb hi; clear HO_103001 HO_114001 BK101 BK102 BK113 HK HB HI0; obtain ⟨HO_103001, HO_114001, BK101, BK102, BK113, HK, HB, HI0⟩ := n_; clear hi hb hk; refine hK.out _ _ ⟨(blk_cell BK113.out 0).trans rfl, (blk_cell BK113.out 1).trans rfl⟩ (fun hHeld => ?_); clear hK K; refine norm_ (a' := ?_) ?_ ?_; rotate_left
         ·show Act.put _ (some 89) _ = _; exact zzS
         refine zQ 8 90 (zM 18 1023) ?_
         refine zQ 10 92 (zM 18 2047) ?_
         refine two_ (i := 11) (j := 15) (Ni := some 93) (Nj := some 15) (zM 18 4095) (zM 18 34815) rfl rfl rfl rfl (two_of HT_.out (by kernel_rfl)) (by decide) (by decide) (fun K hK => ?_) (fun K hK => ?_)
         ·(skip); refine goes_ Try.func83 (by kernel_rfl) rfl #[.agg #[.int .i64 x114000_3, .slice Ao58 x114001_3.length co58], .int .i64 t121, .int .i64 (Int.tmod (wrap64 ((wrap64 (t121 + 1)) + t124)) (wrap64 (2 + t103)))] (by rfl) rfl rfl zz3 ?_; (with_reducible refine (spec_AddEdge.calls k3 x114000_3 _ _ x114001_3 t121 (Int.tmod (wrap64 ((wrap64 (t121 + 1)) + t124)) (wrap64 (2 + t103))) t127 t128 true _ ?side1 ?side2 A55.out).mono ?_); (case side1 => exact zz63); (case side2 => exact (Kd.R_reads' HO_114001.out).2.1); rintro e w61 ⟨v129, rfl, ho0, hb⟩; refine ⟨_, rfl, ?_⟩; have n_ := zA9 (Kd.R_elder' zz24 (Kd.R_base ho0) hb) (Kd.R_elder' zz25 (Kd.R_base ho0) hb) (Kd.R_lower (Kd.R_new' (Kd.R_new' ho0 (Kd.R_lt zz24)) (Kd.R_lt zz25)) (keep_size (w := w) (g := g) (row := none) zz8)) (blk_below (g := gb101) (o := .cells #[.int .i64 0, .slice none 0 0] 31 (0, 0)) zz0 hb) (blk_below (g := gb102) (o := .cells #[.int .i64 x103000_1, u103001] 31 (0, 0)) zz5 hb) (blk_below (g := gb113) (o := .cells #[.int .i64 x114000_3, .slice Ao58 x114001_3.length co58] 31 (0, 0)) zz13 hb) (IsS93.below zz10 hb) (KeepBut.trans zz8 (KeepBut.of_below hb g none) (.inl rfl)) (below_step zz30 hb); clear HO_103001 HO_114001 BK101 BK102 BK113 HI0 HK HB; obtain ⟨HO_103001, HO_114001, HO130, BK101, BK102, BK113, HI0, HK, HB⟩ := n_; clear ho0 hb; refine hK.out _ _ ⟨(blk_cell BK113.out 0).trans rfl, (blk_cell BK113.out 1).trans rfl⟩ (fun hHeld => ?_); clear hK K; refine norm_ (a' := ?_) ?_ ?_; rotate_left
          ·show Act.put _ (some 93) _ = _; exact zzS
          refine zQ 12 81 (zM 18 8191) ?_
          refine zQ 13 94 (zM 18 16383) ?_
          refine zQ 14 95 (zM 18 32767) ?_
          refine one_ (i := 15) (N := some 15) (zM 18 65535) rfl rfl (one_of HT_.out (by kernel_rfl)) (by decide) (fun K hK => ?_); refine box_step ?hg (N := 15) ?hd (cs := #[.int .i64 0, .slice none 0 0]) (t := 31) ?hr ?_; (case hd => rfl); (case hg => rfl); (case hr => exact zz18); intro gb132 hg w62 hbox hb; have n_ := zA20 (Kd.R_below zz24 hb) (Kd.R_below zz25 hb) (Kd.R_below (by (with_reducible repeat (first | apply Kd.R_alloc | apply Kd.R_drewN | apply Kd.R_drew)); exact HO130.out) hb) (blk_below (g := gb101) (o := .cells #[.int .i64 0, .slice none 0 0] 31 (0, 0)) zz0 hb) (blk_below (g := gb102) (o := .cells #[.int .i64 x103000_1, u103001] 31 (0, 0)) zz5 hb) (blk_below (g := gb113) (o := .cells #[.int .i64 x114000_3, .slice Ao58 x114001_3.length co58] 31 (0, 0)) zz13 hb) (IsS93.below zz10 hb) (KeepBut.trans zz8 (KeepBut.of_below hb g none) (.inl rfl)) (below_step zz30 hb) hbox (by rw [hg]; exact (keep_size (w := w) (g := g) (row := none) zz8) : w.heap.size ≤ gb132) (Nat.le_trans HW0.out (by rw [hg]; exact (keep_size (w := w) (g := g) (row := none) zz8) : w.heap.size ≤ gb132) : w0.heap.size ≤ gb132) (zz51 : gb101 ≠ gb132) (zz52 : gb132 ≠ gb101) (zz85 : gb102 ≠ gb132) (zz86 : gb132 ≠ gb102) (by rw [hg]; exact Nat.ne_of_lt (blk_lt (g := gb113) (o := .cells #[.int .i64 x114000_3, .slice Ao58 x114001_3.length co58] 31 (0, 0)) zz13) : gb113 ≠ gb132) (by rw [hg]; exact Nat.ne_of_gt (blk_lt (g := gb113) (o := .cells #[.int .i64 x114000_3, .slice Ao58 x114001_3.length co58] 31 (0, 0)) zz13) : gb132 ≠ gb113) (zz53 : g ≠ gb132) (zz54 : gb132 ≠ g); clear HO_103001 HO_114001 HO130 BK101 BK102 BK113 HI0 HK HB; obtain ⟨HO_103001, HO_114001, HO130, BK101, BK102, BK113, HI0, HK, HB, BK132, GW132, GE132, NB101_132, NB132_101, NB102_132, NB132_102, NB113_132, NB132_113, NB0_132, NB132_0⟩ := n_; clear hb hbox hg; refine hK.out _ _ ⟨(blk_cell BK113.out 0).trans rfl, (blk_cell BK113.out 1).trans rfl⟩ (fun hHeld => ?_); clear hK K; refine norm_ (a' := ?_) ?_ ?_; rotate_left
          ·show Act.put _ (some 15) _ = _; exact zzS
          exact norm_ (by simp only [putAll, Act.put, List.setIfInBounds_toArray, List.set_cons_zero, List.set_cons_succ]) (hCont (v129, gb132) _ ⟨hHeld, zz76, zz73, zz74, zz0, zz5, zz13, zz49, GW132.out, GE132.out, NB0_132.out, NB132_0.out, NB101_132.out, NB132_101.out, NB102_132.out, NB132_102.out, NB113_132.out, NB132_113.out, zz42, zz15, zz28⟩)
         ·(skip); refine box_step ?hg (N := 15) ?hd (cs := #[.int .i64 0, .slice none 0 0]) (t := 31) ?hr ?_; (case hd => rfl); (case hg => rfl); (case hr => exact zz18); intro gb132 hg w61 hbox hb; have n_ := zA19 (Kd.R_below zz24 hb) (Kd.R_below zz25 hb) (blk_below (g := gb101) (o := .cells #[.int .i64 0, .slice none 0 0] 31 (0, 0)) zz0 hb) (blk_below (g := gb102) (o := .cells #[.int .i64 x103000_1, u103001] 31 (0, 0)) zz5 hb) (blk_below (g := gb113) (o := .cells #[.int .i64 x114000_3, .slice Ao58 x114001_3.length co58] 31 (0, 0)) zz13 hb) (IsS93.below zz10 hb) (KeepBut.trans zz8 (KeepBut.of_below hb g none) (.inl rfl)) (below_step zz30 hb) hbox (by rw [hg]; exact (keep_size (w := w) (g := g) (row := none) zz8) : w.heap.size ≤ gb132) (Nat.le_trans HW0.out (by rw [hg]; exact (keep_size (w := w) (g := g) (row := none) zz8) : w.heap.size ≤ gb132) : w0.heap.size ≤ gb132) (zz51 : gb101 ≠ gb132) (zz52 : gb132 ≠ gb101) (zz85 : gb102 ≠ gb132) (zz86 : gb132 ≠ gb102) (by rw [hg]; exact Nat.ne_of_lt (blk_lt (g := gb113) (o := .cells #[.int .i64 x114000_3, .slice Ao58 x114001_3.length co58] 31 (0, 0)) zz13) : gb113 ≠ gb132) (by rw [hg]; exact Nat.ne_of_gt (blk_lt (g := gb113) (o := .cells #[.int .i64 x114000_3, .slice Ao58 x114001_3.length co58] 31 (0, 0)) zz13) : gb132 ≠ gb113) (zz53 : g ≠ gb132) (zz54 : gb132 ≠ g); clear HO_103001 HO_114001 BK101 BK102 BK113 HI0 HK HB; obtain ⟨HO_103001, HO_114001, BK101, BK102, BK113, HI0, HK, HB, BK132, GW132, GE132, NB101_132, NB132_101, NB102_132, NB132_102, NB113_132, NB132_113, NB0_132, NB132_0⟩ := n_; clear hb hbox hg; refine hK.out _ _ ⟨(blk_cell BK113.out 0).trans rfl, (blk_cell BK113.out 1).trans rfl⟩ (fun hHeld => ?_); clear hK K; refine norm_ (a' := ?_) ?_ ?_; rotate_left
          ·show Act.put _ (some 15) _ = _; exact zzS
          refine one_ (i := 11) (N := some 93) (zM 18 36863) rfl rfl (one_of HT_.out (by kernel_rfl)) (by decide) (fun K hK => ?_); refine goes_ Try.func83 (by kernel_rfl) rfl #[.agg #[.int .i64 x114000_3, .slice Ao58 x114001_3.length co58], .int .i64 t121, .int .i64 (Int.tmod (wrap64 ((wrap64 (t121 + 1)) + t124)) (wrap64 (2 + t103)))] (by rfl) rfl rfl zz3 ?_; (with_reducible refine (spec_AddEdge.calls k3 x114000_3 _ _ x114001_3 t121 (Int.tmod (wrap64 ((wrap64 (t121 + 1)) + t124)) (wrap64 (2 + t103))) t127 t128 true _ ?side1 ?side2 A55.out).mono ?_); (case side1 => exact zz63); (case side2 => exact (Kd.R_reads' HO_114001.out).2.1); rintro e w62 ⟨v129, rfl, ho0, hb⟩; refine ⟨_, rfl, ?_⟩; have n_ := zA10 (Kd.R_elder' zz24 (Kd.R_base ho0) hb) (Kd.R_elder' zz25 (Kd.R_base ho0) hb) (Kd.R_lower (Kd.R_new' (Kd.R_new' ho0 (Kd.R_lt zz24)) (Kd.R_lt zz25)) (keep_size (w := w) (g := g) (row := none) zz15)) (blk_below (g := gb101) (o := .cells #[.int .i64 0, .slice none 0 0] 31 (0, 0)) zz0 hb) (blk_below (g := gb102) (o := .cells #[.int .i64 x103000_1, u103001] 31 (0, 0)) zz5 hb) (blk_below (g := gb113) (o := .cells #[.int .i64 x114000_3, .slice Ao58 x114001_3.length co58] 31 (0, 0)) zz13 hb) (IsS93.below zz32 hb) (blk_below (g := gb132) (o := .cells #[.int .i64 0, .slice none 0 0] 31 (0, 0)) zz49 hb) (KeepBut.trans zz15 (KeepBut.of_below hb g none) (.inl rfl)) (below_step zz28 hb); clear HO_103001 HO_114001 BK101 BK102 BK113 HI0 BK132 HK HB; obtain ⟨HO_103001, HO_114001, HO130, BK101, BK102, BK113, HI0, BK132, HK, HB⟩ := n_; clear ho0 hb; refine hK.out _ _ ⟨(blk_cell BK113.out 0).trans rfl, (blk_cell BK113.out 1).trans rfl⟩ (fun hHeld => ?_); clear hK K; refine norm_ (a' := ?_) ?_ ?_; rotate_left
          ·show Act.put _ (some 93) _ = _; exact zzS
          refine zQ 12 81 (zM 18 40959) ?_
          refine zQ 13 94 (zM 18 49151) ?_
          refine zQ 14 95 (zM 18 65535) ?_
          exact norm_ (by simp only [putAll, Act.put, List.setIfInBounds_toArray, List.set_cons_zero, List.set_cons_succ]) (hCont (v129, gb132) _ ⟨hHeld, zz76, zz73, zz74, zz0, zz5, zz13, zz49, GW132.out, GE132.out, NB0_132.out, NB132_0.out, NB101_132.out, NB132_101.out, NB102_132.out, NB132_102.out, NB113_132.out, NB132_113.out, zz42, zz15, zz28⟩)
        ·(skip); refine box_step ?hg (N := 15) ?hd (cs := #[.int .i64 0, .slice none 0 0]) (t := 31) ?hr ?_; (case hd => rfl); (case hg => rfl); (case hr => exact zz18); intro gb132 hg w60 hbox hb; have n_ := zA19 (Kd.R_below zz24 hb) (Kd.R_below zz25 hb) (blk_below (g := gb101) (o := .cells #[.int .i64 0, .slice none 0 0] 31 (0, 0)) zz0 hb) (blk_below (g := gb102) (o := .cells #[.int .i64 x103000_1, u103001] 31 (0, 0)) zz5 hb) (blk_below (g := gb113) (o := .cells #[.int .i64 x114000_3, .slice Ao58 x114001_3.length co58] 31 (0, 0)) zz13 hb) (IsS93.below zz10 hb) (KeepBut.trans zz8 (KeepBut.of_below hb g none) (.inl rfl)) (below_step zz30 hb) hbox (by rw [hg]; exact (keep_size (w := w) (g := g) (row := none) zz8) : w.heap.size ≤ gb132) (Nat.le_trans HW0.out (by rw [hg]; exact (keep_size (w := w) (g := g) (row := none) zz8) : w.heap.size ≤ gb132) : w0.heap.size ≤ gb132) (zz51 : gb101 ≠ gb132) (zz52 : gb132 ≠ gb101) (zz85 : gb102 ≠ gb132) (zz86 : gb132 ≠ gb102) (by rw [hg]; exact Nat.ne_of_lt (blk_lt (g := gb113) (o := .cells #[.int .i64 x114000_3, .slice Ao58 x114001_3.length co58] 31 (0, 0)) zz13) : gb113 ≠ gb132) (by rw [hg]; exact Nat.ne_of_gt (blk_lt (g := gb113) (o := .cells #[.int .i64 x114000_3, .slice Ao58 x114001_3.length co58] 31 (0, 0)) zz13) : gb132 ≠ gb113) (zz123 : g ≠ gb132) (zz124 : gb132 ≠ g); clear HO_103001 HO_114001 BK101 BK102 BK113 HI0 HK HB; obtain ⟨HO_103001, HO_114001, BK101, BK102, BK113, HI0, HK, HB, BK132, GW132, GE132, NB101_132, NB132_101, NB102_132, NB132_102, NB113_132, NB132_113, NB0_132, NB132_0⟩ := n_; clear hb hbox hg; refine hK.out _ _ ⟨(blk_cell BK113.out 0).trans rfl, (blk_cell BK113.out 1).trans rfl⟩ (fun hHeld => ?_); clear hK K; refine norm_ (a' := ?_) ?_ ?_; rotate_left
         ·show Act.put _ (some 15) _ = _; exact zzS
         refine one_ (i := 7) (N := some 89) (zM 18 33535) rfl rfl (one_of HT_.out (by kernel_rfl)) (by decide) (fun K hK => ?_); refine goes_ Try.func43 (by kernel_rfl) rfl #[.pointer (some ⟨g, 0, none⟩), .int .i64 (wrap64 ((wrap64 (2 + t103)) - 1))] (by rfl) rfl rfl zz3 ?_; (with_reducible refine (spec_l01Below.calls g s0_0 t122 t123 (wrap64 ((wrap64 (2 + t103)) - 1)) t124 t125 t126 w0 _ ?side1 ?side2 A53.out).mono ?_); (case side1 => repeat (first | (with_reducible first | exact HI0.out | apply IsS93.alloc | apply IsS93.drewN | apply IsS93.drew | apply IsS93.set_1 | apply IsS93.set_2 | refine IsS93.far ?_ NB0_101.out _ | refine IsS93.far ?_ NB0_102.out _ | refine IsS93.far ?_ NB0_113.out _ | refine IsS93.far ?_ NB0_132.out _) | exact HI0.out)); (case side2 => repeat (first | (with_reducible first | exact HB.out | apply below_alloc | apply pw_below_drewN | apply below_drew1 | refine below_set ?_ (IsS93.ge HI0.out) | refine below_set ?_ GE101.out | refine below_set ?_ GE102.out | refine below_set ?_ GE113.out | refine below_set ?_ GE132.out) | exact HB.out)); rintro e w61 ⟨rfl, hi, hb, hk⟩; refine ⟨_, rfl, ?_⟩; have n_ := zA9 (Kd.R_mono (Kd.R_keep (IsS93.apart (show IsS93 w0 _ g s0_0 t122 t123 from by repeat (first | (with_reducible first | exact HI0.out | apply IsS93.alloc | apply IsS93.drewN | apply IsS93.drew | apply IsS93.set_1 | apply IsS93.set_2 | refine IsS93.far ?_ NB0_101.out _ | refine IsS93.far ?_ NB0_102.out _ | refine IsS93.far ?_ NB0_113.out _ | refine IsS93.far ?_ NB0_132.out _) | exact HI0.out)) zz24 (by decide)) hk (fun _ h => h.2)) (fun _ h => h.1)) (Kd.R_mono (Kd.R_keep (IsS93.apart (show IsS93 w0 _ g s0_0 t122 t123 from by repeat (first | (with_reducible first | exact HI0.out | apply IsS93.alloc | apply IsS93.drewN | apply IsS93.drew | apply IsS93.set_1 | apply IsS93.set_2 | refine IsS93.far ?_ NB0_101.out _ | refine IsS93.far ?_ NB0_102.out _ | refine IsS93.far ?_ NB0_113.out _ | refine IsS93.far ?_ NB0_132.out _) | exact HI0.out)) zz25 (by decide)) hk (fun _ h => h.2)) (fun _ h => h.1)) (KeepBut.blk hk (g' := gb101) (o := .cells #[.int .i64 0, .slice none 0 0] 31 (0, 0)) zz0 NB101_0.out (by simp)) (KeepBut.blk hk (g' := gb102) (o := .cells #[.int .i64 x103000_1, u103001] 31 (0, 0)) zz5 NB102_0.out (by simp)) (KeepBut.blk hk (g' := gb113) (o := .cells #[.int .i64 x114000_3, .slice Ao58 x114001_3.length co58] 31 (0, 0)) zz13 NB113_0.out (by simp)) (KeepBut.blk hk (g' := gb132) (o := .cells #[.int .i64 0, .slice none 0 0] 31 (0, 0)) zz49 NB132_0.out (by simp)) (KeepBut.trans zz15 hk (.inl rfl)) hb hi; clear HO_103001 HO_114001 BK101 BK102 BK113 BK132 HK HB HI0; obtain ⟨HO_103001, HO_114001, BK101, BK102, BK113, BK132, HK, HB, HI0⟩ := n_; clear hi hb hk; refine hK.out _ _ ⟨(blk_cell BK113.out 0).trans rfl, (blk_cell BK113.out 1).trans rfl⟩ (fun hHeld => ?_); clear hK K; refine norm_ (a' := ?_) ?_ ?_; rotate_left
         ·show Act.put _ (some 89) _ = _; exact zzS
         refine zQ 8 90 (zM 18 33791) ?_
         refine zQ 10 92 (zM 18 34815) ?_
         refine one_ (i := 11) (N := some 93) (zM 18 36863) rfl rfl (one_of HT_.out (by kernel_rfl)) (by decide) (fun K hK => ?_); refine goes_ Try.func83 (by kernel_rfl) rfl #[.agg #[.int .i64 x114000_3, .slice Ao58 x114001_3.length co58], .int .i64 t121, .int .i64 (Int.tmod (wrap64 ((wrap64 (t121 + 1)) + t124)) (wrap64 (2 + t103)))] (by rfl) rfl rfl zz3 ?_; (with_reducible refine (spec_AddEdge.calls k3 x114000_3 _ _ x114001_3 t121 (Int.tmod (wrap64 ((wrap64 (t121 + 1)) + t124)) (wrap64 (2 + t103))) t127 t128 true _ ?side1 ?side2 A55.out).mono ?_); (case side1 => exact zz63); (case side2 => exact (Kd.R_reads' HO_114001.out).2.1); rintro e w62 ⟨v129, rfl, ho0, hb⟩; refine ⟨_, rfl, ?_⟩; have n_ := zA10 (Kd.R_elder' zz24 (Kd.R_base ho0) hb) (Kd.R_elder' zz25 (Kd.R_base ho0) hb) (Kd.R_lower (Kd.R_new' (Kd.R_new' ho0 (Kd.R_lt zz24)) (Kd.R_lt zz25)) (keep_size (w := w) (g := g) (row := none) zz15)) (blk_below (g := gb101) (o := .cells #[.int .i64 0, .slice none 0 0] 31 (0, 0)) zz0 hb) (blk_below (g := gb102) (o := .cells #[.int .i64 x103000_1, u103001] 31 (0, 0)) zz5 hb) (blk_below (g := gb113) (o := .cells #[.int .i64 x114000_3, .slice Ao58 x114001_3.length co58] 31 (0, 0)) zz13 hb) (IsS93.below zz32 hb) (blk_below (g := gb132) (o := .cells #[.int .i64 0, .slice none 0 0] 31 (0, 0)) zz49 hb) (KeepBut.trans zz15 (KeepBut.of_below hb g none) (.inl rfl)) (below_step zz28 hb); clear HO_103001 HO_114001 BK101 BK102 BK113 HI0 BK132 HK HB; obtain ⟨HO_103001, HO_114001, HO130, BK101, BK102, BK113, HI0, BK132, HK, HB⟩ := n_; clear ho0 hb; refine hK.out _ _ ⟨(blk_cell BK113.out 0).trans rfl, (blk_cell BK113.out 1).trans rfl⟩ (fun hHeld => ?_); clear hK K; refine norm_ (a' := ?_) ?_ ?_; rotate_left
         ·show Act.put _ (some 93) _ = _; exact zzS
         refine zQ 12 81 (zM 18 40959) ?_
         refine zQ 13 94 (zM 18 49151) ?_
         refine zQ 14 95 (zM 18 65535) ?_
         exact norm_ (by simp only [putAll, Act.put, List.setIfInBounds_toArray, List.set_cons_zero, List.set_cons_succ]) (hCont (v129, gb132) _ ⟨hHeld, zz76, zz73, zz74, zz0, zz5, zz13, zz49, GW132.out, GE132.out, NB0_132.out, NB132_0.out, NB101_132.out, NB132_101.out, NB102_132.out, NB132_102.out, NB113_132.out, NB132_113.out, zz42, zz15, zz28⟩)
       rintro ⟨v129, gb132⟩ w63 ⟨hS_, h0_, h1_, h2_, h3_, h4_, h5_, h6_, h7_, h8_, h9_, h10_, h11_, h12_, h13_, h14_, h15_, h16_, h17_, h18_, h19_⟩; have n0_ : Aside0 (Kd.R k67 67 w63 w.heap.size (fun k_ => some k_ ≠ (u103001 : Value).ownBlock ∧ some k_ ≠ (.slice Ao58 x114001_3.length co58 : Value).ownBlock) v129 t128) := ⟨h0_⟩; have n1_ : Aside0 (Kd.R k67 67 w63 w.heap.size (fun k_ => some k_ ≠ (v129 : Value).ownBlock ∧ some k_ ≠ (.slice Ao58 x114001_3.length co58 : Value).ownBlock) u103001 x103001_1) := ⟨h1_⟩; have n2_ : Aside0 (Kd.R k67 67 w63 w.heap.size (fun k_ => some k_ ≠ (v129 : Value).ownBlock ∧ some k_ ≠ (u103001 : Value).ownBlock) (.slice Ao58 x114001_3.length co58) x114001_3) := ⟨h2_⟩; have n3_ : Aside0 (w63.heap[gb101]? = some (.cells #[.int .i64 0, .slice none 0 0] 31 (0, 0))) := ⟨h3_⟩; have n4_ : Aside0 (w63.heap[gb102]? = some (.cells #[.int .i64 x103000_1, u103001] 31 (0, 0))) := ⟨h4_⟩; have n5_ : Aside0 (w63.heap[gb113]? = some (.cells #[.int .i64 x114000_3, .slice Ao58 x114001_3.length co58] 31 (0, 0))) := ⟨h5_⟩; have n6_ : Aside0 (w63.heap[gb132]? = some (.cells #[.int .i64 0, .slice none 0 0] 31 (0, 0))) := ⟨h6_⟩; have n7_ : Aside0 (w.heap.size ≤ gb132) := ⟨h7_⟩; have n8_ : Aside0 (w0.heap.size ≤ gb132) := ⟨h8_⟩; have n9_ : Aside0 (g ≠ gb132) := ⟨h9_⟩; have n10_ : Aside0 (gb132 ≠ g) := ⟨h10_⟩; have n11_ : Aside0 (gb101 ≠ gb132) := ⟨h11_⟩; have n12_ : Aside0 (gb132 ≠ gb101) := ⟨h12_⟩; have n13_ : Aside0 (gb102 ≠ gb132) := ⟨h13_⟩; have n14_ : Aside0 (gb132 ≠ gb102) := ⟨h14_⟩; have n15_ : Aside0 (gb113 ≠ gb132) := ⟨h15_⟩; have n16_ : Aside0 (gb132 ≠ gb113) := ⟨h16_⟩; have n17_ : Aside0 (IsS93 w0 w63 g s0_0 t125 t126) := ⟨h17_⟩; have n18_ : Aside0 (KeepBut w w63 g none) := ⟨h18_⟩; have n19_ : Aside0 (Below w0.heap.size w0 w63) := ⟨h19_⟩; clear HO_103001; clear HO_114001; clear BK101; clear BK102; clear BK113; clear HI0; clear HK; clear HB; clear h0_ h1_ h2_ h3_ h4_ h5_ h6_ h7_ h8_ h9_ h10_ h11_ h12_ h13_ h14_ h15_ h16_ h17_ h18_ h19_; have HO130 := n0_; have HO_103001 := n1_; have HO_114001 := n2_; have BK101 := n3_; have BK102 := n4_; have BK113 := n5_; have BK132 := n6_; have GW132 := n7_; have GE132 := n8_; have NB0_132 := n9_; have NB132_0 := n10_; have NB101_132 := n11_; have NB132_101 := n12_; have NB102_132 := n13_; have NB132_102 := n14_; have NB113_132 := n15_; have NB132_113 := n16_; have HI0 := n17_; have HK := n18_; have HB := n19_; clear n0_ n1_ n2_ n3_ n4_ n5_ n6_ n7_ n8_ n9_ n10_ n11_ n12_ n13_ n14_ n15_ n16_ n17_ n18_ n19_; have hHeld : w63.cell? ⟨gb113, 0, none⟩ = some (.int .i64 x114000_3) ∧ w63.cell? ⟨gb113, 1, none⟩ = some (.slice Ao58 x114001_3.length co58) := hS_; obtain ⟨Ao65, co65, eo65⟩ := Kd.R_slice HO130.out; (first | subst eo65 | (injection eo65 with f1_ f2_ f3_; have f4_ := f1_.symm; have f5_ := f3_.symm; clear f1_ f2_ f3_; subst f4_; subst f5_)); refine norm_ (a' := ?_) ?_ ?_; rotate_left
       ·simp only [putAll, Act.put, List.setIfInBounds_toArray, List.set_cons_zero, List.set_cons_succ]; rfl
       refine one_ (i := 16) (N := none) (zM 18 131071) rfl rfl (one_of HT_.out (by kernel_rfl)) (by decide) (fun K hK => ?_); have hs64 : w63.cell? ⟨gb132, 0, none⟩ = some (.int .i64 0) := (blk_cell BK132.out 0).trans rfl; have hfs64 := blk_frozen BK132.out 0; have hns64_0 := NB101_132.out; have hns64_1 := NB102_132.out; have hns64_2 := NB113_132.out; have hms64_0 := NB132_101.out; have hms64_1 := NB132_102.out; have hms64_2 := NB132_113.out; have hs66 : w63.cell? ⟨gb132, 1, none⟩ = some (.slice none 0 0) := (blk_cell BK132.out 1).trans rfl; have hfs66 := blk_frozen BK132.out 1; have hns66_0 := NB101_132.out; have hns66_1 := NB102_132.out; have hns66_2 := NB113_132.out; have hms66_0 := NB132_101.out; have hms66_1 := NB132_102.out; have hms66_2 := NB132_113.out; refine skip_ (w1 := ?_) (by rfl) rfl ?_ ?_; rotate_left
       ·go_simp; rfl
       refine hK.out _ _ ⟨((cell_far (p := ⟨gb132, _, none⟩) NB113_132.out _).trans (((cell_far (p := ⟨gb132, _, none⟩) NB113_132.out _).trans (hHeld.1)))), ((cell_far (p := ⟨gb132, _, none⟩) NB113_132.out _).trans (((cell_far (p := ⟨gb132, _, none⟩) NB113_132.out _).trans (hHeld.2))))⟩ (fun hHeld => ?_); clear hK K; refine zQ 17 16 (zM 18 262143) ?_
       refine done_ (done_of HT_.out (by kernel_rfl)) ?_; have hnb67 := NB132_101.out; have hnc67 := NB101_132.out; have hnb68 := NB132_102.out; have hnc68 := NB102_132.out; have hnb69 := NB132_113.out; have hnc69 := NB113_132.out; have hnb70 := NB132_0.out; have hnc70 := NB0_132.out; have hcz71_0 := zC20 BK132; have hcz71_1 := zC21 BK132; have hfz71_0 := blk_frozen BK132.out 0; have hfz71_1 := blk_frozen BK132.out 1; have hnb72 := NB113_101.out; have hnc72 := NB101_113.out; have hnb73 := NB113_102.out; have hnc73 := NB102_113.out; have hnb74 := NB113_0.out; have hnc74 := NB0_113.out; have hcz75_0 := zC20 BK113; have hcz75_1 := zC21 BK113; have hfz75_0 := blk_frozen BK113.out 0; have hfz75_1 := blk_frozen BK113.out 1; (try go_wp2); go_roundg k3; (case measure => have := HK1.out; have := HK2.out; have := HK3.out; omega); case rel => exact ⟨(wrap64 (x13_3 - 1)), (t125), (t126), (t127), (t128), (.slice Ao65 t128.length co65), zz7, H', ⟨by have := HK1.out; have := HK2.out; have := HK3.out; omega⟩, ⟨by (with_reducible repeat (first | apply Kd.R_alloc | apply Kd.R_drewN | apply Kd.R_drew)); exact Kd.R_mono (Kd.R_far (p := ⟨gb113, 1, none⟩) (Kd.R_far (p := ⟨gb113, 0, none⟩) (Kd.R_far (p := ⟨gb132, 1, none⟩) (Kd.R_far (p := ⟨gb132, 0, none⟩) (Kd.R_types (Kd.R_types HO_103001.out BK132.out (by decide)) BK113.out (by decide)) (fun _ hk => hk.1.2) (.int .i64 t127)) (fun _ hk => hk.1.2) (.slice Ao65 t128.length co65)) (fun _ hk => hk.2) (.int .i64 t127)) (fun _ hk => hk.2) (.slice Ao65 t128.length co65)) (fun _ hk => hk.1.1.1)⟩, ⟨by (with_reducible repeat (first | apply Kd.R_alloc | apply Kd.R_drewN | apply Kd.R_drew)); exact Kd.R_mono (Kd.R_far (p := ⟨gb113, 1, none⟩) (Kd.R_far (p := ⟨gb113, 0, none⟩) (Kd.R_far (p := ⟨gb132, 1, none⟩) (Kd.R_far (p := ⟨gb132, 0, none⟩) (Kd.R_types (Kd.R_types HO130.out BK132.out (by decide)) BK113.out (by decide)) (fun _ hk => hk.1.2) (.int .i64 t127)) (fun _ hk => hk.1.2) (.slice Ao65 t128.length co65)) (fun _ hk => hk.2) (.int .i64 t127)) (fun _ hk => hk.2) (.slice Ao65 t128.length co65)) (fun _ hk => hk.1.1.1)⟩, ⟨by (with_reducible repeat (first | refine blk_drewN ?_ _ | refine blk_drew ?_ | refine blk_alloc ?_ _)); refine blk_far ?_ NB101_113.out _; (with_reducible repeat (first | refine blk_drewN ?_ _ | refine blk_drew ?_ | refine blk_alloc ?_ _)); refine blk_far ?_ NB101_113.out _; (with_reducible repeat (first | refine blk_drewN ?_ _ | refine blk_drew ?_ | refine blk_alloc ?_ _)); refine blk_far ?_ NB101_132.out _; (with_reducible repeat (first | refine blk_drewN ?_ _ | refine blk_drew ?_ | refine blk_alloc ?_ _)); refine blk_far ?_ NB101_132.out _; (with_reducible repeat (first | refine blk_drewN ?_ _ | refine blk_drew ?_ | refine blk_alloc ?_ _)); exact BK101.out⟩, ⟨by (with_reducible repeat (first | refine blk_drewN ?_ _ | refine blk_drew ?_ | refine blk_alloc ?_ _)); refine blk_far ?_ NB102_113.out _; (with_reducible repeat (first | refine blk_drewN ?_ _ | refine blk_drew ?_ | refine blk_alloc ?_ _)); refine blk_far ?_ NB102_113.out _; (with_reducible repeat (first | refine blk_drewN ?_ _ | refine blk_drew ?_ | refine blk_alloc ?_ _)); refine blk_far ?_ NB102_132.out _; (with_reducible repeat (first | refine blk_drewN ?_ _ | refine blk_drew ?_ | refine blk_alloc ?_ _)); refine blk_far ?_ NB102_132.out _; (with_reducible repeat (first | refine blk_drewN ?_ _ | refine blk_drew ?_ | refine blk_alloc ?_ _)); exact BK102.out⟩, ⟨by (with_reducible repeat (first | refine blk_drewN ?_ _ | refine blk_drew ?_ | refine blk_alloc ?_ _)); refine blk_put (cs := #[.int .i64 t127, .slice Ao58 x114001_3.length co58]) ?_ 1 _ rfl; (with_reducible repeat (first | refine blk_drewN ?_ _ | refine blk_drew ?_ | refine blk_alloc ?_ _)); refine blk_put (cs := #[.int .i64 x114000_3, .slice Ao58 x114001_3.length co58]) ?_ 0 _ rfl; (with_reducible repeat (first | refine blk_drewN ?_ _ | refine blk_drew ?_ | refine blk_alloc ?_ _)); refine blk_far ?_ NB113_132.out _; (with_reducible repeat (first | refine blk_drewN ?_ _ | refine blk_drew ?_ | refine blk_alloc ?_ _)); refine blk_far ?_ NB113_132.out _; (with_reducible repeat (first | refine blk_drewN ?_ _ | refine blk_drew ?_ | refine blk_alloc ?_ _)); exact BK113.out⟩, ⟨by repeat (first | (with_reducible first | exact HI0.out | apply IsS93.alloc | apply IsS93.drewN | apply IsS93.drew | apply IsS93.set_1 | apply IsS93.set_2 | refine IsS93.far ?_ NB0_101.out _ | refine IsS93.far ?_ NB0_102.out _ | refine IsS93.far ?_ NB0_113.out _ | refine IsS93.far ?_ NB0_132.out _) | exact HI0.out)⟩, ⟨by repeat (first | (with_reducible first | exact HK.out | apply KeepBut.set_ | apply keep_drewN | apply keep_drew | apply keep_alloc | refine keep_far ?_ GW101.out _ | refine keep_far ?_ GW102.out _ | refine keep_far ?_ GW113.out _ | refine keep_far ?_ GW132.out _) | exact HK.out)⟩, ⟨by repeat (first | (with_reducible first | exact HB.out | apply below_alloc | apply pw_below_drewN | apply below_drew1 | refine below_set ?_ (IsS93.ge HI0.out) | refine below_set ?_ GE101.out | refine below_set ?_ GE102.out | refine below_set ?_ GE113.out | refine below_set ?_ GE132.out) | exact HB.out)⟩⟩
end Go.Proofs.Ytdfibdjjoplmmaa.P
end

section
namespace Go.Proofs.Ytdfibdjjoplmmaa.P
open Go.RowKit Go.Proofs.YtdfibdjjoplmmaaW.PrintWords Go.Proofs.YtdfibdjjoplmmaaW.PrintLast Go.Proofs.YtdfibdjjoplmmaaW.PrintMore
attribute [local go_sem] max2_int min2_int max_two min_two max_three min_three max_four min_four
set_option linter.unusedVariables false
set_option linter.unusedSimpArgs false
def spec_l02Graph.f (k : Nat) (s0_0 : List Int) (s0_1 : Int) (s0_2 : Int) : Option (Int × (List (S67)) × Int × Int) := (spec_l02Draw.f k s0_0 s0_1 s0_2 5).bind fun bt102 => (some (bt102.1, bt102.2.1, bt102.2.2.1, bt102.2.2.2))
theorem spec_l02Graph.mono : ∀ a0 a1 a2 k, LeO (spec_l02Graph.f k a0 a1 a2) (spec_l02Graph.f (k + 1) a0 a1 a2) := by
 intro a0 a1 a2 k; unfold spec_l02Graph.f; repeat' first | (with_reducible apply spec_l02Draw.mono) | (with_reducible exact LeO.refl _) | (with_reducible exact LeO.none _) | (with_reducible refine LeO.ite ?_ ?_) | (with_reducible refine LeO.bind ?_ (fun _ => ?_)) | apply spec_l02Draw.mono | exact LeO.none _ | refine LeO.ite ?_ ?_ | refine LeO.bind ?_ (fun _ => ?_)
set_option maxHeartbeats 8000000 in
set_option maxRecDepth 100000 in
theorem spec_l02Graph.calls (k : Nat) (g : Nat) (s0_0 : List Int) (s0_1 : Int) (s0_2 : Int) (r1 : Int) (r2 : List (S67)) (r3 : Int) (r4 : Int) (w0 w : World) (hI : IsS93 w0 w g s0_0 s0_1 s0_2) (hB : Below w0.heap.size w0 w) (h : spec_l02Graph.f k s0_0 s0_1 s0_2 = some (r1, r2, r3, r4)) :
  Calls Try.prog 42 #[.pointer (some ⟨g, 0, none⟩)] w fun e w' => ∃ v1_ : Value, e = .returned (.agg #[.int .i64 r1, v1_]) ∧ Kd.R k67 67 w' w.heap.size (fun _ => True) v1_ r2 ∧ IsS93 w0 w' g s0_0 r3 r4 ∧ Below w0.heap.size w0 w' ∧ KeepBut w w' g none := by
 have hu31 := Try.underlying31; have HI0 := Aside0.mk hI; have HK := Aside0.mk (KeepBut.refl w g none); have HL := Aside0.mk hB.size; clear hI; have HW0 := Aside0.mk hB.size; have HB := Aside0.mk hB; clear hB; have H : ((spec_l02Draw.f k s0_0 s0_1 s0_2 5).bind fun bt102 => (some (bt102.1, bt102.2.1, bt102.2.2.1, bt102.2.2.2))) = some (r1, r2, r3, r4) := h; clear h; replace H := Option.bind_eq_some_iff.mp H; obtain ⟨⟨t102, t103, t106, t107⟩, A20, H⟩ := H; dsimp only at H; have A2 := Aside0.mk A20; clear A20; simp only [Option.some.injEq, Prod.mk.injEq] at H; obtain ⟨rfl, rfl, rfl, rfl⟩ := H; go_enter Try.func42, Try.ntmps42; (go_wp2_with (first | ((with_reducible refine gate_dst (N := 2) rfl ?_); refine box_event ?hg (N := 2) ?hd (cs := #[.int .i64 0, .slice none 0 0]) (t := 31) ?hr ?_; (case hd => rfl); (case hg => rfl); (case hr => exact zz18); intro gb101 hg w3 hbox hb; have n_ := zA8 (IsS93.below (by repeat (first | (with_reducible first | exact HI0.out | apply IsS93.alloc | apply IsS93.drewN | apply IsS93.drew | apply IsS93.set_1 | apply IsS93.set_2) | exact HI0.out)) hb) (KeepBut.trans zz46 (KeepBut.of_below hb g none) (.inl rfl)) (below_step zz80 hb) hbox (by rw [hg]; exact (keep_size (w := w) (g := g) (row := none) zz46) : w.heap.size ≤ gb101) (Nat.le_trans HW0.out (by rw [hg]; exact (keep_size (w := w) (g := g) (row := none) zz46) : w.heap.size ≤ gb101) : w0.heap.size ≤ gb101) (by rw [hg]; exact Nat.ne_of_lt (IsS93.lt (show IsS93 w0 _ g s0_0 s0_1 s0_2 from by repeat (first | (with_reducible first | exact HI0.out | apply IsS93.alloc | apply IsS93.drewN | apply IsS93.drew | apply IsS93.set_1 | apply IsS93.set_2) | exact HI0.out))) : g ≠ gb101) (by rw [hg]; exact Nat.ne_of_gt (IsS93.lt (show IsS93 w0 _ g s0_0 s0_1 s0_2 from by repeat (first | (with_reducible first | exact HI0.out | apply IsS93.alloc | apply IsS93.drewN | apply IsS93.drew | apply IsS93.set_1 | apply IsS93.set_2) | exact HI0.out))) : gb101 ≠ g); clear HI0 HK HB; obtain ⟨HI0, HK, HB, BK101, GW101, GE101, NB0_101, NB101_0⟩ := n_; clear hb hbox hg) | ((with_reducible refine gate_callee (f := 71) rfl ?_); refine goesL_ (some 4) rfl rfl Try.func71 (by kernel_rfl) rfl #[.pointer (some ⟨g, 0, none⟩), .int .i64 5] rfl zz3 ?_; (with_reducible refine (spec_l02Draw.calls k g s0_0 s0_1 s0_2 5 t102 t103 t106 t107 w0 _ ?side1 ?side2 A2.out).mono ?_); (case side1 => repeat (first | (with_reducible first | exact HI0.out | apply IsS93.alloc | apply IsS93.drewN | apply IsS93.drew | apply IsS93.set_1 | apply IsS93.set_2 | refine IsS93.far ?_ NB0_101.out _) | exact HI0.out)); (case side2 => repeat (first | (with_reducible first | exact HB.out | apply below_alloc | apply pw_below_drewN | apply below_drew1 | refine below_set ?_ (IsS93.ge HI0.out) | refine below_set ?_ GE101.out) | exact HB.out)); rintro e w4 ⟨v104, rfl, ho0, hi, hb, hk⟩; refine ⟨_, rfl, ?_⟩; have n_ := zA5 (KeepBut.blk hk (g' := gb101) (o := .cells #[.int .i64 0, .slice none 0 0] 31 (0, 0)) zz0 NB101_0.out (by simp)) (Kd.R_lower ho0 (keep_size (w := w) (g := g) (row := none) zz75)) (KeepBut.trans zz75 hk (.inl rfl)) hb hi; clear BK101 HK HB HI0; obtain ⟨BK101, HO105, HK, HB, HI0⟩ := n_; clear ho0 hi hb hk; have hnb5 := NB101_0.out; have hnc5 := NB0_101.out; have hcz6_0 := zC20 BK101; have hcz6_1 := zC21 BK101; have hfz6_0 := blk_frozen BK101.out 0; have hfz6_1 := blk_frozen BK101.out 1; obtain ⟨Ao7, co7, eo7⟩ := Kd.R_slice HO105.out; subst eo7))); refine bodyPost_ret (results_cell_row rfl _ _ gb101 31 #[.int .i64 t102, .slice Ao7 t103.length co7] (0, 0) _ rfl (by (with_reducible repeat (first | refine blk_drewN ?_ _ | refine blk_drew ?_ | refine blk_alloc ?_ _)); refine blk_put (cs := #[.int .i64 t102, .slice none 0 0]) ?_ 1 _ rfl; (with_reducible repeat (first | refine blk_drewN ?_ _ | refine blk_drew ?_ | refine blk_alloc ?_ _)); refine blk_put (cs := #[.int .i64 0, .slice none 0 0]) ?_ 0 _ rfl; (with_reducible repeat (first | refine blk_drewN ?_ _ | refine blk_drew ?_ | refine blk_alloc ?_ _)); exact BK101.out) Try.underlying31 rfl (by kernel_rfl)) rfl ?_; exact ⟨_, zz9, by (with_reducible repeat (first | apply Kd.R_alloc | apply Kd.R_drewN | apply Kd.R_drew)); exact Kd.R_mono (Kd.R_far (p := ⟨gb101, 1, none⟩) (Kd.R_far (p := ⟨gb101, 0, none⟩) (Kd.R_types HO105.out BK101.out (by decide)) (fun _ hk => hk.2) (.int .i64 t102)) (fun _ hk => hk.2) (.slice Ao7 t103.length co7)) (fun _ hk => trivial), by repeat (first | (with_reducible first | exact HI0.out | apply IsS93.alloc | apply IsS93.drewN | apply IsS93.drew | apply IsS93.set_1 | apply IsS93.set_2 | refine IsS93.far ?_ NB0_101.out _) | exact HI0.out), by repeat (first | (with_reducible first | exact HB.out | apply below_alloc | apply pw_below_drewN | apply below_drew1 | refine below_set ?_ (IsS93.ge HI0.out) | refine below_set ?_ GE101.out) | exact HB.out), by repeat (first | (with_reducible first | exact HK.out | apply KeepBut.set_ | apply keep_drewN | apply keep_drew | apply keep_alloc | refine keep_far ?_ GW101.out _) | exact HK.out)⟩
def spec_MakeTree.f (k : Nat) (l0 : List Int) : Option (Int × (List (S67)) × List Int) := (spec_l01New.f k l0).bind fun bt102 => ((spec_l02Graph.f k bt102.1 bt102.2.1 bt102.2.2).bind fun bt106 => ((spec_TreesOf.f k bt106.1 bt106.2.1).bind fun bt113 => (if bt113.2 = true then ((spec_l01Below.f bt102.1 bt106.2.2.1 bt106.2.2.2 (bt113.1.length : Int)).bind fun bt117 => (if 0 ≤ bt117.1 then (if bt117.1 < (bt113.1.length : Int) then (some (bt106.1, bt106.2.1, rd_L3 bt113.1 bt117.1)) else (none)) else (none))) else ((some (([(⟨0, 1⟩ : S67), (⟨0, 2⟩ : S67), (⟨1, 2⟩ : S67)] : List (S67)) : List (S67))).bind fun y121 => ((spec_TreesOf.f k 3 y121).bind fun bt124 => ((spec_l01Below.f bt102.1 bt106.2.2.1 bt106.2.2.2 (bt124.1.length : Int)).bind fun bt128 => (if 0 ≤ bt128.1 then (if bt128.1 < (bt124.1.length : Int) then (some (3, y121, rd_L3 bt124.1 bt128.1)) else (none)) else (none))))))))
theorem spec_MakeTree.mono : ∀ a0 k, LeO (spec_MakeTree.f k a0) (spec_MakeTree.f (k + 1) a0) := by
 intro a0 k; unfold spec_MakeTree.f; repeat' first | (with_reducible apply spec_TreesOf.mono) | (with_reducible apply spec_l01New.mono) | (with_reducible apply spec_l02Graph.mono) | (with_reducible exact LeO.refl _) | (with_reducible exact LeO.none _) | (with_reducible refine LeO.ite ?_ ?_) | (with_reducible refine LeO.bind ?_ (fun _ => ?_)) | apply spec_TreesOf.mono | apply spec_l01New.mono | apply spec_l02Graph.mono | exact LeO.none _ | refine LeO.ite ?_ ?_ | refine LeO.bind ?_ (fun _ => ?_)
def spec_MakeTree.T7 : Bool × List (List Nat × List Nat) := (true, [([], []), ([], []), ([], []), ([], []), ([3], [3]), ([2, 4], [2, 4]), ([1, 5], [1, 5]), ([6], [6]), ([0, 5, 0], [0]), ([7, 8, 0, 1, 2, 3, 4, 5, 6, 7, 8], [7])])
def spec_MakeTree.B7 : List Nat := [0, 0, 0, 0, 8, 28, 62, 126, 61, 511]
theorem spec_MakeTree.tab7 : rtab .any (opsOf Try.f16 7) = spec_MakeTree.T7 := by kernel_rfl
theorem spec_MakeTree.bits7 : waitsOk spec_MakeTree.T7.2 spec_MakeTree.B7 = true := by kernel_rfl
set_option maxHeartbeats 8000000 in
set_option maxRecDepth 100000 in
theorem spec_MakeTree.calls (k : Nat) (A0 : Option Addr) (c0 : Nat) (l0 : List Int) (r1 : Int) (r2 : List (S67)) (r3 : List Int) (w : World) (hr0 : Kd.C (Kd.int .u8) w A0 l0.length l0) (hc0 : l0.length ≤ c0) (h : spec_MakeTree.f k l0 = some (r1, r2, r3)) :
  Calls Try.prog 16 #[.slice A0 l0.length c0] w fun e w' => ∃ v1_ v2_ : Value, e = .returned (.tuple #[.agg #[.int .i64 r1, v1_], v2_]) ∧ Kd.R k67 67 w' w.heap.size (fun k_ => (w.heap.size ≤ k_)) v1_ r2 ∧ Kd.V (Kd.int .i64) 3 w' w.heap.size (fun k_ => (w.heap.size ≤ k_) ∧ some k_ ≠ (v1_ : Value).ownBlock) v2_ r3 ∧ Below w.heap.size w w' := by
 have hu31 := Try.underlying31; have hu67 := Try.underlying67; have HR0 := Aside0.mk hr0; have HC0 := Aside0.mk hc0; clear hr0 hc0; have HB := Aside0.mk (Below.refl w.heap.size w); have H : ((spec_l01New.f k l0).bind fun bt102 => ((spec_l02Graph.f k bt102.1 bt102.2.1 bt102.2.2).bind fun bt106 => ((spec_TreesOf.f k bt106.1 bt106.2.1).bind fun bt113 => (if bt113.2 = true then ((spec_l01Below.f bt102.1 bt106.2.2.1 bt106.2.2.2 (bt113.1.length : Int)).bind fun bt117 => (if 0 ≤ bt117.1 then (if bt117.1 < (bt113.1.length : Int) then (some (bt106.1, bt106.2.1, rd_L3 bt113.1 bt117.1)) else (none)) else (none))) else ((some (([(⟨0, 1⟩ : S67), (⟨0, 2⟩ : S67), (⟨1, 2⟩ : S67)] : List (S67)) : List (S67))).bind fun y121 => ((spec_TreesOf.f k 3 y121).bind fun bt124 => ((spec_l01Below.f bt102.1 bt106.2.2.1 bt106.2.2.2 (bt124.1.length : Int)).bind fun bt128 => (if 0 ≤ bt128.1 then (if bt128.1 < (bt124.1.length : Int) then (some (3, y121, rd_L3 bt124.1 bt128.1)) else (none)) else (none))))))))) = some (r1, r2, r3) := h; clear h; replace H := Option.bind_eq_some_iff.mp H; obtain ⟨⟨t102, t103, t104⟩, A20, H⟩ := H; dsimp only at H; have A2 := Aside0.mk A20; clear A20; replace H := Option.bind_eq_some_iff.mp H; obtain ⟨⟨t106, t107, t110, t111⟩, A30, H⟩ := H; dsimp only at H; have A3 := Aside0.mk A30; clear A30; replace H := Option.bind_eq_some_iff.mp H; obtain ⟨⟨t113, t116⟩, A40, H⟩ := H; dsimp only at H; have A4 := Aside0.mk A40; clear A40; by_cases c5 : t116 = true
 ·subst c5; rw [if_pos rfl] at H; replace H := Option.bind_eq_some_iff.mp H; obtain ⟨⟨t117, t118, t119⟩, A60, H⟩ := H; dsimp only at H; have A6 := Aside0.mk A60; clear A60; by_cases c7 : 0 ≤ t117; rotate_left
  ·rw [if_neg c7] at H; exact absurd H (by simp)
  rw [if_pos c7] at H; have c7b0 := decide_eq_true c7; clear c7; by_cases c8 : t117 < (t113.length : Int); rotate_left
  ·rw [if_neg c8] at H; exact absurd H (by simp)
  rw [if_pos c8] at H; have c8b0 := decide_eq_true c8; clear c8; simp only [Option.some.injEq, Prod.mk.injEq] at H; obtain ⟨rfl, rfl, rfl⟩ := H; go_enter Try.func16, Try.ntmps16; (try go_wp2_with (first | ((with_reducible refine gate_dst (N := 2) rfl ?_); refine box_event ?hg (N := 2) ?hd (cs := #[.int .i64 0, .slice none 0 0]) (t := 31) ?hr ?_; (case hd => rfl); (case hg => rfl); (case hr => exact zz18); intro gb101 hg w9 hbox hb; have n_ := zA4 (below_step zz2 hb) hbox (zz23 : w.heap.size ≤ gb101) (zz23 : w.heap.size ≤ gb101); clear HB; obtain ⟨HB, BK101, GW101, GE101⟩ := n_; clear hb hbox hg) | ((with_reducible refine gate_callee (f := 41) rfl ?_); refine goesL_ (some 9) rfl rfl Try.func41 (by kernel_rfl) rfl #[.slice A0 l0.length c0] rfl zz3 ?_; (with_reducible refine (spec_l01New.calls k _ _ l0 t102 t103 t104 w _ ?side1 ?side2 ?side3 A2.out).mono ?_); (case side1 => repeat (first | (with_reducible first | exact HB.out | apply below_alloc | apply pw_below_drewN | apply below_drew1 | refine below_set ?_ GE101.out) | exact HB.out)); (case side2 => exact HR0.out); (case side3 => exact HC0.out); rintro e w10 ⟨g105, rfl, hi, hb, hb2⟩; refine ⟨_, rfl, ?_⟩; have n_ := zA5 (blk_below (g := gb101) (o := .cells #[.int .i64 0, .slice none 0 0] 31 (0, 0)) zz0 hb2) hb hi (IsS93.ne_blk hi (blk_below (g := gb101) (o := .cells #[.int .i64 0, .slice none 0 0] 31 (0, 0)) zz0 hb2) (by decide)) (Ne.symm (IsS93.ne_blk hi (blk_below (g := gb101) (o := .cells #[.int .i64 0, .slice none 0 0] 31 (0, 0)) zz0 hb2) (by decide))); clear BK101 HB; obtain ⟨BK101, HB, HI105, NB105_101, NB101_105⟩ := n_; clear hi hb hb2) | ((with_reducible refine gate_callee (f := 42) rfl ?_); refine goesL_ (some 11) rfl rfl Try.func42 (by kernel_rfl) rfl #[.pointer (some ⟨g105, 0, none⟩)] rfl zz3 ?_; (with_reducible refine (spec_l02Graph.calls k g105 t102 t103 t104 t106 t107 t110 t111 w _ ?side1 ?side2 A3.out).mono ?_); (case side1 => repeat (first | (with_reducible first | exact HI105.out | apply IsS93.alloc | apply IsS93.drewN | apply IsS93.drew | apply IsS93.set_1 | apply IsS93.set_2 | refine IsS93.far ?_ NB105_101.out _) | exact HI105.out)); (case side2 => repeat (first | (with_reducible first | exact HB.out | apply below_alloc | apply pw_below_drewN | apply below_drew1 | refine below_set ?_ (IsS93.ge HI105.out) | refine below_set ?_ GE101.out) | exact HB.out)); rintro e w11 ⟨v108, rfl, ho0, hi, hb, hk⟩; refine ⟨_, rfl, ?_⟩; have n_ := zA4 (KeepBut.blk hk (g' := gb101) (o := .cells #[.int .i64 0, .slice none 0 0] 31 (0, 0)) zz0 NB101_105.out (by simp)) (Kd.R_lower (Kd.R_newM (M := fun k_ => (w.heap.size ≤ k_)) ho0 (below_size zz40) (fun k_ h_ => h_)) (below_size zz40)) hb hi; clear BK101 HB HI105; obtain ⟨BK101, HO109, HB, HI105⟩ := n_; clear ho0 hi hb hk) | ((with_reducible refine gate_dst (N := 5) rfl ?_); refine box_event ?hg (N := 5) ?hd (cs := #[.int .i64 0, .slice none 0 0]) (t := 31) ?hr ?_; (case hd => rfl); (case hg => rfl); (case hr => exact zz18); intro gb112 hg w12 hbox hb; have n_ := zA11 (Kd.R_below zz98 hb) (blk_below (g := gb101) (o := .cells #[.int .i64 0, .slice none 0 0] 31 (0, 0)) zz0 hb) (IsS93.below (by repeat (first | (with_reducible first | exact HI105.out | apply IsS93.alloc | apply IsS93.drewN | apply IsS93.drew | apply IsS93.set_1 | apply IsS93.set_2 | refine IsS93.far ?_ NB105_101.out _) | exact HI105.out)) hb) (below_step zz40 hb) hbox (by rw [hg]; exact (below_size zz40) : w.heap.size ≤ gb112) (by rw [hg]; exact (below_size zz40) : w.heap.size ≤ gb112) (zz51 : gb101 ≠ gb112) (zz52 : gb112 ≠ gb101) (by rw [hg]; exact Nat.ne_of_lt (IsS93.lt (show IsS93 w _ g105 t102 t110 t111 from by repeat (first | (with_reducible first | exact HI105.out | apply IsS93.alloc | apply IsS93.drewN | apply IsS93.drew | apply IsS93.set_1 | apply IsS93.set_2 | refine IsS93.far ?_ NB105_101.out _) | exact HI105.out))) : g105 ≠ gb112) (by rw [hg]; exact Nat.ne_of_gt (IsS93.lt (show IsS93 w _ g105 t102 t110 t111 from by repeat (first | (with_reducible first | exact HI105.out | apply IsS93.alloc | apply IsS93.drewN | apply IsS93.drew | apply IsS93.set_1 | apply IsS93.set_2 | refine IsS93.far ?_ NB105_101.out _) | exact HI105.out))) : gb112 ≠ g105); clear HO109 BK101 HI105 HB; obtain ⟨HO109, BK101, HI105, HB, BK112, GW112, GE112, NB101_112, NB112_101, NB105_112, NB112_105⟩ := n_; clear hb hbox hg; have hnb13 := NB112_101.out; have hnc13 := NB101_112.out; have hnb14 := NB112_105.out; have hnc14 := NB105_112.out; have hcz15_0 := zC20 BK112; have hcz15_1 := zC21 BK112; have hfz15_0 := blk_frozen BK112.out 0; have hfz15_1 := blk_frozen BK112.out 1; obtain ⟨Ao16, co16, eo16⟩ := Kd.R_slice HO109.out; subst eo16) | ((with_reducible refine gate_callee (f := 21) rfl ?_); refine goesL_ (some 14) rfl rfl Try.func21 (by kernel_rfl) rfl #[.agg #[.int .i64 t106, .slice Ao16 t107.length co16]] rfl zz3 ?_; (with_reducible refine (spec_TreesOf.calls k t106 _ _ t107 t113 true _ ?side1 ?side2 A4.out).mono ?_); (case side1 => refine (Kd.R_reads' (e := 67) (base := w.heap.size) (ok := fun k_ => ((w.heap.size ≤ k_) ∧ True)) (n := t107.length) (c := co16) ?_).2.2; exact zz87); (case side2 => exact (Kd.R_reads' HO109.out).2.1); rintro e w17 ⟨v114, rfl, ho0, hb⟩; refine ⟨_, rfl, ?_⟩; have n_ := zA6 (Kd.R_below zz87 hb) (Kd.N_lower (Kd.N_mono (ok' := fun k_ => (w.heap.size ≤ k_) ∧ some k_ ≠ (.slice Ao16 t107.length co16 : Value).ownBlock ∧ k_ ≠ gb101 ∧ k_ ≠ gb112 ∧ k_ ≠ g105) ho0 (fun k_ hk_ => ⟨(Nat.le_trans (below_size zz29) hk_), (Kd.fresh' (Kd.R_lt zz87) k_ hk_), (Kd.freshB (g := gb101) (o := .cells #[.int .i64 0, .slice none 0 0] 31 (0, 0)) zz34 k_ hk_), (Kd.freshB (g := gb112) (o := .cells #[.int .i64 t106, .slice Ao16 t107.length co16] 31 (0, 0)) zz48 k_ hk_), (IsS93.fresh zz72 k_ hk_)⟩)) (below_size zz29)) (blk_below (g := gb101) (o := .cells #[.int .i64 0, .slice none 0 0] 31 (0, 0)) zz34 hb) (IsS93.below (show IsS93 w ((w12.setCell ⟨gb112, 0, none⟩ (.int .i64 t106)).setCell ⟨gb112, 1, none⟩ (.slice Ao16 t107.length co16)) g105 t102 t110 t111 from by repeat (first | (with_reducible first | exact HI105.out | apply IsS93.alloc | apply IsS93.drewN | apply IsS93.drew | apply IsS93.set_1 | apply IsS93.set_2 | refine IsS93.far ?_ NB105_101.out _ | refine IsS93.far ?_ NB105_112.out _) | exact HI105.out)) hb) (blk_below (g := gb112) (o := .cells #[.int .i64 t106, .slice Ao16 t107.length co16] 31 (0, 0)) zz48 hb) (below_step zz29 hb); clear HO109 BK101 HI105 BK112 HB; obtain ⟨HO109, HO115, BK101, HI105, BK112, HB⟩ := n_; clear ho0 hb))); have n_ := zA6 (Kd.R_drew HO109.out) (Kd.N_drew HO115.out) (blk_drew BK101.out) (blk_drew BK112.out) (IsS93.drew HI105.out) (below_drew1 HB.out); clear HO109 HO115 BK101 BK112 HI105 HB; obtain ⟨HO109, HO115, BK101, BK112, HI105, HB⟩ := n_; obtain ⟨Ao19, co19, eo19⟩ := Kd.N_slice HO115.out; (first | subst eo19 | (injection eo19 with f1_ f2_ f3_; have f4_ := f1_.symm; have f5_ := f3_.symm; clear f1_ f2_ f3_; subst f4_; subst f5_)); have p120 : 0 ≤ (t117 : Int) := of_decide_eq_true zz4; have q120 : t117 < (t113.length : Int) := of_decide_eq_true zz4; obtain ⟨ad120, A120_0, c120_0, e120, hx120_0, hl120_0, hi120_0⟩ := at_L3 (Kd.N_reads' HO115.out).2.2 t117 p120 q120; cases e120; obtain ⟨ce120, hce120, hMe120, hcc120⟩ := Kd.N_get HO115.out [] t117 p120 (by first | exact q120 | exact of_decide_eq_true zz4 | (have e_ := (Kd.N_reads' HO115.out).1; omega)); obtain ⟨ua120_0, uc120_0, rfl, ul120_0, ge120_0⟩ := Kd.FK_slice_open hMe120; have hv120_0 := hcc120 0 _ rfl; rw [Nat.add_zero, show ((Kd.slice 3 (Kd.int .i64))).sz = 1 from rfl, Nat.mul_one] at hv120_0; replace hv120_0 := Option.some.inj (hv120_0.symm.trans hx120_0); injection hv120_0 with hva_ hvn_ hvc_; rw [hva_] at ge120_0; rw [hvc_] at ul120_0; have HL120_0 := Aside0.mk (show Kd.V (Kd.int .i64) 3 _ w.heap.size _ _ (rd_L3 t113 t117) from Kd.V_mk ul120_0 ge120_0); clear hva_ hvn_ hvc_ ge120_0 ul120_0; clear hcc120 hce120; have HR120_0 := Aside0.mk hi120_0; have HC120_0 := Aside0.mk hl120_0; clear hi120_0 hl120_0; replace p120 := eq_true p120; replace q120 := eq_true q120; refine start_ (n := 10) (S := fun w' => w'.cell? ⟨gb112, 0, none⟩ = some (.int .i64 t106) ∧ w'.cell? ⟨gb112, 1, none⟩ = some (.slice Ao16 t107.length co16) ∧ w'.cell? (ad120.add (t117).toNat) = some (.slice A120_0 (rd_L3 t113 t117).length c120_0)) (ds := []) (zM 10 0) (by kernel_rfl) rfl rfl ⟨(blk_cell BK112.out 0).trans rfl, (blk_cell BK112.out 1).trans rfl, hx120_0⟩ (fun hHeld => ?_); refine with_tabW spec_MakeTree.tab7 spec_MakeTree.bits7 (fun HT_ HW_ => ?_); generalize w17.drew = w18 at HO109 HO115 BK101 BK112 HI105 HB HL120_0 HR120_0 hx120_0 hHeld ⊢; refine zQ 1 30 (zM 10 2) ?_
  refine zQ 2 31 (zM 10 6) ?_
  refine zQ 3 32 (zM 10 14) ?_
  refine zQ 4 33 (zM 10 30) ?_
  refine take_ (i := 0) (N := some 29) (v := ?_) (a' := ?_) (zM 10 31) rfl rfl (take_ofW HT_.out HW_.out (by kernel_rfl)) (fun _ _ _ h => h) (Or.inl ⟨by rfl, ?_⟩) hHeld ?_ ?_; rotate_left
  ·rintro w' ⟨s0, s1, s2⟩; exact zzT
  rotate_left
  ·exact zzS
  refine one_ (i := 5) (N := some 34) (zM 10 63) rfl rfl (one_of HT_.out (by kernel_rfl)) (by decide) (fun K hK => ?_); refine goes_ Try.func43 (by kernel_rfl) rfl #[.pointer (some ⟨g105, 0, none⟩), .int .i64 (t113.length : Int)] (by rfl) rfl rfl zz3 ?_; (with_reducible refine (spec_l01Below.calls g105 t102 t110 t111 (t113.length : Int) t117 t118 t119 w _ ?side1 ?side2 A6.out).mono ?_); (case side1 => repeat (first | (with_reducible first | exact HI105.out | apply IsS93.alloc | apply IsS93.drewN | apply IsS93.drew | apply IsS93.set_1 | apply IsS93.set_2 | refine IsS93.far ?_ NB105_101.out _ | refine IsS93.far ?_ NB105_112.out _) | exact HI105.out)); (case side2 => repeat (first | (with_reducible first | exact HB.out | apply below_alloc | apply pw_below_drewN | apply below_drew1 | refine below_set ?_ (IsS93.ge HI105.out) | refine below_set ?_ GE101.out | refine below_set ?_ GE112.out) | exact HB.out)); rintro e w20 ⟨rfl, hi, hb, hk⟩; have HS2_ := keep_cell hk (hHeld.2.2) (by first | (rw [add_block]; exact Kd.own_blk (IsS93.own_neN HI105.out HO115.out (by decide))) | (show (Addr.add _ _).block ≠ _; rw [add_block]; exact Kd.own_blk (IsS93.own_neN HI105.out HO115.out (by decide))) | exact Kd.own_blk (IsS93.own_neN HI105.out HO115.out (by decide))); refine ⟨_, rfl, ?_⟩; have n0_ := Aside0.mk (KeepBut.blk hk (g' := gb101) (o := .cells #[.int .i64 0, .slice none 0 0] 31 (0, 0)) zz0 NB101_105.out (by simp)); have n1_ := Aside0.mk (Kd.R_mono (Kd.R_keep (IsS93.apart (show IsS93 w _ g105 t102 t110 t111 from by repeat (first | (with_reducible first | exact HI105.out | apply IsS93.alloc | apply IsS93.drewN | apply IsS93.drew | apply IsS93.set_1 | apply IsS93.set_2 | refine IsS93.far ?_ NB105_101.out _ | refine IsS93.far ?_ NB105_112.out _) | exact HI105.out)) zz98 (by decide)) hk (fun _ h => h.2)) (fun _ h => h.1)); have n2_ := Aside0.mk (KeepBut.blk hk (g' := gb112) (o := .cells #[.int .i64 t106, .slice Ao16 t107.length co16] 31 (0, 0)) (by (with_reducible repeat (first | refine blk_drewN ?_ _ | refine blk_drew ?_ | refine blk_alloc ?_ _)); exact BK112.out) NB112_105.out (by simp)); have n3_ := Aside0.mk (Kd.N_mono (Kd.N_keep (Kd.N_mono (ok := fun k_ => (((w.heap.size ≤ k_)) ∧ (some k_ ≠ (.slice Ao16 t107.length co16 : Value).ownBlock ∧ (k_ ≠ gb101 ∧ (k_ ≠ gb112 ∧ k_ ≠ g105))))) (by (with_reducible repeat (first | apply Kd.N_alloc | apply Kd.N_drewN | apply Kd.N_drew)); exact HO115.out) (fun k_ hk_ => (⟨hk_, hk_.2.2.2.2⟩ : _ ∧ k_ ≠ g105))) hk (fun _ h => h.2)) (fun _ h => h.1)); have n4_ := Aside0.mk (hb); have n5_ := Aside0.mk (hi); have HL120_0 := Aside0.mk (Kd.V_keep HL120_0.out hk (fun k_ hk_ => by first | exact hk_.1.2.2.2.2 | exact hk_.1.2.2.2.2.2.2)); clear BK101; clear HO109; clear BK112; clear HO115; clear HB; clear HI105; have BK101 := n0_; have HO109 := n1_; have BK112 := n2_; have HO115 := n3_; have HB := n4_; have HI105 := n5_; clear n0_ n1_ n2_ n3_ n4_ n5_; (try clear hb); (try clear hb2); (try clear hk); (try clear hi); refine hK.out _ _ ⟨(blk_cell BK112.out 0).trans rfl, (blk_cell BK112.out 1).trans rfl, HS2_⟩ (fun hHeld => ?_); clear hK K; refine norm_ (a' := ?_) ?_ ?_; rotate_left
  ·show Act.put _ (some 34) _ = _; exact zzS
  refine zQ 6 35 (zM 10 127) ?_
  refine take_ (i := 7) (N := some 36) (v := ?_) (a' := ?_) (zM 10 255) rfl rfl (take_ofW HT_.out HW_.out (by kernel_rfl)) (fun _ _ _ h => h) (Or.inl ⟨by rfl, ?_⟩) hHeld ?_ ?_; rotate_left
  ·rintro w' ⟨s0, s1, s2⟩; exact zzT
  rotate_left
  ·exact zzS
  refine one_ (i := 8) (N := none) (zM 10 511) rfl rfl (one_of HT_.out (by kernel_rfl)) (by decide) (fun K hK => ?_); have hs21 : w20.cell? ⟨gb101, 0, none⟩ = some (.int .i64 0) := (blk_cell BK101.out 0).trans rfl; have hfs21 := blk_frozen BK101.out 0; have hns21_1 := NB112_101.out; have hms21_1 := NB101_112.out; have hs22 : w20.cell? ⟨gb101, 1, none⟩ = some (.slice none 0 0) := (blk_cell BK101.out 1).trans rfl; have hfs22 := blk_frozen BK101.out 1; have hns22_1 := NB112_101.out; have hms22_1 := NB101_112.out; refine skip_ (w1 := ?_) (by rfl) rfl ?_ ?_; rotate_left
  ·go_simp; rfl
  refine hK.out _ _ ⟨((cell_far (p := ⟨gb101, _, none⟩) NB112_101.out _).trans (((cell_far (p := ⟨gb101, _, none⟩) NB112_101.out _).trans (hHeld.1)))), ((cell_far (p := ⟨gb101, _, none⟩) NB112_101.out _).trans (((cell_far (p := ⟨gb101, _, none⟩) NB112_101.out _).trans (hHeld.2.1)))), ((cell_far (p := ⟨gb101, _, none⟩) zz128 _).trans (((cell_far (p := ⟨gb101, _, none⟩) zz128 _).trans (hHeld.2.2))))⟩ (fun hHeld => ?_); clear hK K; refine zQ 9 3 (zM 10 1023) ?_
  refine done_ (done_of HT_.out (by kernel_rfl)) ?_; (try go_wp2); refine bodyPost_ret (results_ct rfl _ _ gb101 31 #[.int .i64 t106, .slice Ao16 t107.length co16] (0, 0) _ rfl (by (with_reducible repeat (first | refine blk_drewN ?_ _ | refine blk_drew ?_ | refine blk_alloc ?_ _)); refine blk_put (cs := #[.int .i64 t106, .slice none 0 0]) ?_ 1 _ rfl; (with_reducible repeat (first | refine blk_drewN ?_ _ | refine blk_drew ?_ | refine blk_alloc ?_ _)); refine blk_put (cs := #[.int .i64 0, .slice none 0 0]) ?_ 0 _ rfl; (with_reducible repeat (first | refine blk_drewN ?_ _ | refine blk_drew ?_ | refine blk_alloc ?_ _)); exact BK101.out) Try.underlying31 rfl (by kernel_rfl)) rfl ?_; exact ⟨_, _, zz9, by (with_reducible repeat (first | apply Kd.R_alloc | apply Kd.R_drewN | apply Kd.R_drew)); exact Kd.R_mono (Kd.R_far (p := ⟨gb101, 1, none⟩) (Kd.R_far (p := ⟨gb101, 0, none⟩) (Kd.R_types HO109.out BK101.out (by decide)) (fun _ hk => hk.2) (.int .i64 t106)) (fun _ hk => hk.2) (.slice Ao16 t107.length co16)) (fun _ hk => hk.1.1), by (with_reducible repeat (first | apply Kd.V_alloc | apply Kd.V_drewN | apply Kd.V_drew)); exact Kd.V_mono (Kd.V_far (p := ⟨gb101, 1, none⟩) (Kd.V_far (p := ⟨gb101, 0, none⟩) (Kd.V_mono HL120_0.out (fun k_ hk => (⟨hk, hk.1.2.2.1⟩ : _ ∧ k_ ≠ gb101))) (fun _ hk => hk.2) (.int .i64 t106)) (fun _ hk => hk.2) (.slice Ao16 t107.length co16)) (fun _ hk => ⟨hk.1.1.1, hk.1.1.2.1⟩), by repeat (first | (with_reducible first | exact HB.out | apply below_alloc | apply pw_below_drewN | apply below_drew1 | refine below_set ?_ (IsS93.ge HI105.out) | refine below_set ?_ GE101.out | refine below_set ?_ GE112.out) | exact HB.out)⟩
 replace c5 := Bool.eq_false_iff.mpr c5; subst c5; rw [if_neg (show ¬ (false = true) by decide)] at H; obtain ⟨y121, hy_⟩ : ∃ y_ : List (S67), y_ = (([(⟨0, 1⟩ : S67), (⟨0, 2⟩ : S67), (⟨1, 2⟩ : S67)] : List (S67))) := ⟨_, rfl⟩; (replace H : ((spec_TreesOf.f k 3 y121).bind fun bt124 => ((spec_l01Below.f t102 t110 t111 (bt124.1.length : Int)).bind fun bt128 => (if 0 ≤ bt128.1 then (if bt128.1 < (bt124.1.length : Int) then (some (3, y121, rd_L3 bt124.1 bt128.1)) else (none)) else (none)))) = some (r1, r2, r3) := zzY); have Ny121 := Aside0.mk hy_; clear hy_; replace H := Option.bind_eq_some_iff.mp H; obtain ⟨⟨t124, t127⟩, A230, H⟩ := H; dsimp only at H; have A23 := Aside0.mk A230; clear A230; replace H := Option.bind_eq_some_iff.mp H; obtain ⟨⟨t128, t129, t130⟩, A240, H⟩ := H; dsimp only at H; have A24 := Aside0.mk A240; clear A240; by_cases c25 : 0 ≤ t128; rotate_left
 ·rw [if_neg c25] at H; exact absurd H (by simp)
 rw [if_pos c25] at H; have c25b0 := decide_eq_true c25; clear c25; by_cases c26 : t128 < (t124.length : Int); rotate_left
 ·rw [if_neg c26] at H; exact absurd H (by simp)
 rw [if_pos c26] at H; have c26b0 := decide_eq_true c26; (try (have c26b8120_0 := c26b0; first | rw [hl120_0] at c26b8120_0 | rw [← hl120_0] at c26b8120_0)); clear c26; simp only [Option.some.injEq, Prod.mk.injEq] at H; obtain ⟨rfl, rfl, rfl⟩ := H; go_enter Try.func16, Try.ntmps16; (try go_wp2_with (first | ((with_reducible refine gate_dst (N := 2) rfl ?_); refine box_event ?hg (N := 2) ?hd (cs := #[.int .i64 0, .slice none 0 0]) (t := 31) ?hr ?_; (case hd => rfl); (case hg => rfl); (case hr => exact zz18); intro gb101 hg w27 hbox hb; have n_ := zA4 (below_step zz2 hb) hbox (zz23 : w.heap.size ≤ gb101) (zz23 : w.heap.size ≤ gb101); clear HB; obtain ⟨HB, BK101, GW101, GE101⟩ := n_; clear hb hbox hg) | ((with_reducible refine gate_callee (f := 41) rfl ?_); refine goesL_ (some 9) rfl rfl Try.func41 (by kernel_rfl) rfl #[.slice A0 l0.length c0] rfl zz3 ?_; (with_reducible refine (spec_l01New.calls k _ _ l0 t102 t103 t104 w _ ?side1 ?side2 ?side3 A2.out).mono ?_); (case side1 => repeat (first | (with_reducible first | exact HB.out | apply below_alloc | apply pw_below_drewN | apply below_drew1 | refine below_set ?_ GE101.out) | exact HB.out)); (case side2 => exact HR0.out); (case side3 => exact HC0.out); rintro e w28 ⟨g105, rfl, hi, hb, hb2⟩; refine ⟨_, rfl, ?_⟩; have n_ := zA5 (blk_below (g := gb101) (o := .cells #[.int .i64 0, .slice none 0 0] 31 (0, 0)) zz0 hb2) hb hi (IsS93.ne_blk hi (blk_below (g := gb101) (o := .cells #[.int .i64 0, .slice none 0 0] 31 (0, 0)) zz0 hb2) (by decide)) (Ne.symm (IsS93.ne_blk hi (blk_below (g := gb101) (o := .cells #[.int .i64 0, .slice none 0 0] 31 (0, 0)) zz0 hb2) (by decide))); clear BK101 HB; obtain ⟨BK101, HB, HI105, NB105_101, NB101_105⟩ := n_; clear hi hb hb2) | ((with_reducible refine gate_callee (f := 42) rfl ?_); refine goesL_ (some 11) rfl rfl Try.func42 (by kernel_rfl) rfl #[.pointer (some ⟨g105, 0, none⟩)] rfl zz3 ?_; (with_reducible refine (spec_l02Graph.calls k g105 t102 t103 t104 t106 t107 t110 t111 w _ ?side1 ?side2 A3.out).mono ?_); (case side1 => repeat (first | (with_reducible first | exact HI105.out | apply IsS93.alloc | apply IsS93.drewN | apply IsS93.drew | apply IsS93.set_1 | apply IsS93.set_2 | refine IsS93.far ?_ NB105_101.out _) | exact HI105.out)); (case side2 => repeat (first | (with_reducible first | exact HB.out | apply below_alloc | apply pw_below_drewN | apply below_drew1 | refine below_set ?_ (IsS93.ge HI105.out) | refine below_set ?_ GE101.out) | exact HB.out)); rintro e w29 ⟨v108, rfl, ho0, hi, hb, hk⟩; refine ⟨_, rfl, ?_⟩; have n_ := zA4 (KeepBut.blk hk (g' := gb101) (o := .cells #[.int .i64 0, .slice none 0 0] 31 (0, 0)) zz0 NB101_105.out (by simp)) (Kd.R_lower (Kd.R_newM (M := fun k_ => (w.heap.size ≤ k_)) ho0 (below_size zz40) (fun k_ h_ => h_)) (below_size zz40)) hb hi; clear BK101 HB HI105; obtain ⟨BK101, HO109, HB, HI105⟩ := n_; clear ho0 hi hb hk) | ((with_reducible refine gate_dst (N := 5) rfl ?_); refine box_event ?hg (N := 5) ?hd (cs := #[.int .i64 0, .slice none 0 0]) (t := 31) ?hr ?_; (case hd => rfl); (case hg => rfl); (case hr => exact zz18); intro gb112 hg w30 hbox hb; have n_ := zA11 (Kd.R_below zz98 hb) (blk_below (g := gb101) (o := .cells #[.int .i64 0, .slice none 0 0] 31 (0, 0)) zz0 hb) (IsS93.below (by repeat (first | (with_reducible first | exact HI105.out | apply IsS93.alloc | apply IsS93.drewN | apply IsS93.drew | apply IsS93.set_1 | apply IsS93.set_2 | refine IsS93.far ?_ NB105_101.out _) | exact HI105.out)) hb) (below_step zz40 hb) hbox (by rw [hg]; exact (below_size zz40) : w.heap.size ≤ gb112) (by rw [hg]; exact (below_size zz40) : w.heap.size ≤ gb112) (zz51 : gb101 ≠ gb112) (zz52 : gb112 ≠ gb101) (by rw [hg]; exact Nat.ne_of_lt (IsS93.lt (show IsS93 w _ g105 t102 t110 t111 from by repeat (first | (with_reducible first | exact HI105.out | apply IsS93.alloc | apply IsS93.drewN | apply IsS93.drew | apply IsS93.set_1 | apply IsS93.set_2 | refine IsS93.far ?_ NB105_101.out _) | exact HI105.out))) : g105 ≠ gb112) (by rw [hg]; exact Nat.ne_of_gt (IsS93.lt (show IsS93 w _ g105 t102 t110 t111 from by repeat (first | (with_reducible first | exact HI105.out | apply IsS93.alloc | apply IsS93.drewN | apply IsS93.drew | apply IsS93.set_1 | apply IsS93.set_2 | refine IsS93.far ?_ NB105_101.out _) | exact HI105.out))) : gb112 ≠ g105); clear HO109 BK101 HI105 HB; obtain ⟨HO109, BK101, HI105, HB, BK112, GW112, GE112, NB101_112, NB112_101, NB105_112, NB112_105⟩ := n_; clear hb hbox hg; have hnb31 := NB112_101.out; have hnc31 := NB101_112.out; have hnb32 := NB112_105.out; have hnc32 := NB105_112.out; have hcz33_0 := zC20 BK112; have hcz33_1 := zC21 BK112; have hfz33_0 := blk_frozen BK112.out 0; have hfz33_1 := blk_frozen BK112.out 1; obtain ⟨Ao34, co34, eo34⟩ := Kd.R_slice HO109.out; subst eo34) | ((with_reducible refine gate_callee (f := 21) rfl ?_); refine goesL_ (some 14) rfl rfl Try.func21 (by kernel_rfl) rfl #[.agg #[.int .i64 t106, .slice Ao34 t107.length co34]] rfl zz3 ?_; (with_reducible refine (spec_TreesOf.calls k t106 _ _ t107 t113 false _ ?side1 ?side2 A4.out).mono ?_); (case side1 => refine (Kd.R_reads' (e := 67) (base := w.heap.size) (ok := fun k_ => ((w.heap.size ≤ k_) ∧ True)) (n := t107.length) (c := co34) ?_).2.2; exact zz88); (case side2 => exact (Kd.R_reads' HO109.out).2.1); rintro e w35 ⟨v114, rfl, ho0, hb⟩; refine ⟨_, rfl, ?_⟩; have n_ := zA6 (Kd.R_below zz88 hb) (Kd.N_lower (Kd.N_mono (ok' := fun k_ => (w.heap.size ≤ k_) ∧ some k_ ≠ (.slice Ao34 t107.length co34 : Value).ownBlock ∧ k_ ≠ gb101 ∧ k_ ≠ gb112 ∧ k_ ≠ g105) ho0 (fun k_ hk_ => ⟨(Nat.le_trans (below_size zz29) hk_), (Kd.fresh' (Kd.R_lt zz88) k_ hk_), (Kd.freshB (g := gb101) (o := .cells #[.int .i64 0, .slice none 0 0] 31 (0, 0)) zz34 k_ hk_), (Kd.freshB (g := gb112) (o := .cells #[.int .i64 t106, .slice Ao34 t107.length co34] 31 (0, 0)) zz48 k_ hk_), (IsS93.fresh zz72 k_ hk_)⟩)) (below_size zz29)) (blk_below (g := gb101) (o := .cells #[.int .i64 0, .slice none 0 0] 31 (0, 0)) zz34 hb) (IsS93.below (show IsS93 w ((w30.setCell ⟨gb112, 0, none⟩ (.int .i64 t106)).setCell ⟨gb112, 1, none⟩ (.slice Ao34 t107.length co34)) g105 t102 t110 t111 from by repeat (first | (with_reducible first | exact HI105.out | apply IsS93.alloc | apply IsS93.drewN | apply IsS93.drew | apply IsS93.set_1 | apply IsS93.set_2 | refine IsS93.far ?_ NB105_101.out _ | refine IsS93.far ?_ NB105_112.out _) | exact HI105.out)) hb) (blk_below (g := gb112) (o := .cells #[.int .i64 t106, .slice Ao34 t107.length co34] 31 (0, 0)) zz48 hb) (below_step zz29 hb); clear HO109 BK101 HI105 BK112 HB; obtain ⟨HO109, HO115, BK101, HI105, BK112, HB⟩ := n_; clear ho0 hb) | ((with_reducible refine gate_dst (N := 22) rfl ?_); refine Kd.R_lit k67 _ 67 ?hg (N := 22) ?hd (xs := ([(⟨0, 1⟩ : S67), (⟨0, 2⟩ : S67), (⟨1, 2⟩ : S67)] : List (S67))) (inner := [.int .i64 0, .int .i64 1, .int .i64 0, .int .i64 2, .int .i64 1, .int .i64 2]) (ok := fun _ => True) (okp := fun _ => True) ?hr ?hp (fun _ hk => hk) trivial (Below.refl _ _) (Nat.le_refl _) (by simp) ?_; (case hd => rfl); (case hg => rfl); (case hr => exact zz18); (case hp => exact (Reps.c2 (show Kd.M k67 _ _ _ (⟨0, 1⟩ : S67) [.int .i64 0, .int .i64 1] from (k67_mkM _ _ _ (⟨0, 1⟩ : S67) )) (Reps.c2 (show Kd.M k67 _ _ _ (⟨0, 2⟩ : S67) [.int .i64 0, .int .i64 2] from (k67_mkM _ _ _ (⟨0, 2⟩ : S67) )) (Reps.c2 (show Kd.M k67 _ _ _ (⟨1, 2⟩ : S67) [.int .i64 1, .int .i64 2] from (k67_mkM _ _ _ (⟨1, 2⟩ : S67) )) (Reps.none _ _))))); intro v122 w36 ho37 hb hg_ hnew_; clear hg_ hnew_; (first | rw [← Ny121.out] at ho37 | (simp only [Int.reduceToNat] at ho37; rw [← Ny121.out] at ho37)); have n_ := zA7 (Kd.R_elder' zz98 (Kd.R_base ho37) hb) (Kd.N_elder' (by (with_reducible repeat (first | apply Kd.N_alloc | apply Kd.N_drewN | apply Kd.N_drew)); exact HO115.out) (Kd.R_base ho37) hb) (Kd.R_lower (Kd.R_new' (Kd.R_newM (M := fun k_ => (w.heap.size ≤ k_)) ho37 (below_size zz29) (fun k_ h_ => h_)) (Kd.R_lt zz98)) (below_size zz29)) (blk_below (g := gb101) (o := .cells #[.int .i64 0, .slice none 0 0] 31 (0, 0)) zz0 hb) (IsS93.below zz72 hb) (blk_below (g := gb112) (o := .cells #[.int .i64 t106, .slice Ao34 t107.length co34] 31 (0, 0)) (by (with_reducible repeat (first | refine blk_drewN ?_ _ | refine blk_drew ?_ | refine blk_alloc ?_ _)); exact BK112.out) hb) (below_step zz29 hb); clear HO109 HO115 BK101 HI105 BK112 HB; obtain ⟨HO109, HO115, HO123, BK101, HI105, BK112, HB⟩ := n_; clear hb ho37; obtain ⟨Ao38, co38, eo38⟩ := Kd.R_slice HO123.out; subst eo38; have hcz39_0 := zC20 BK112; have hcz39_1 := zC21 BK112; have hfz39_0 := blk_frozen BK112.out 0; have hfz39_1 := blk_frozen BK112.out 1) | ((with_reducible refine gate_callee (f := 21) rfl ?_); refine goesL_ (some 26) rfl rfl Try.func21 (by kernel_rfl) rfl #[.agg #[.int .i64 3, .slice Ao38 y121.length co38]] rfl zz3 ?_; (with_reducible refine (spec_TreesOf.calls k 3 _ _ y121 t124 t127 _ ?side1 ?side2 A23.out).mono ?_); (case side1 => refine (Kd.R_reads' (e := 67) (base := w.heap.size) (ok := fun k_ => (((w.heap.size ≤ k_) ∧ True) ∧ some k_ ≠ (.slice Ao34 t107.length co34 : Value).ownBlock)) (n := y121.length) (c := co38) ?_).2.2; exact zz89); (case side2 => exact (Kd.R_reads' HO123.out).2.1); rintro e w40 ⟨v125, rfl, ho0, hb⟩; refine ⟨_, rfl, ?_⟩; have n_ := zA8 (Kd.R_below zz130 hb) (Kd.N_elder' zz126 (Kd.N_base ho0) hb) (Kd.R_below zz89 hb) (Kd.N_lower (Kd.N_mono (ok' := fun k_ => (w.heap.size ≤ k_) ∧ some k_ ≠ (.slice Ao34 t107.length co34 : Value).ownBlock ∧ some k_ ≠ (v114 : Value).ownBlock ∧ some k_ ≠ (.slice Ao38 y121.length co38 : Value).ownBlock ∧ k_ ≠ gb101 ∧ k_ ≠ gb112 ∧ k_ ≠ g105) ho0 (fun k_ hk_ => ⟨(Nat.le_trans (below_size zz29) hk_), (Kd.fresh' (Kd.R_lt zz130) k_ hk_), (Kd.fresh' (Kd.N_lt zz126) k_ hk_), (Kd.fresh' (Kd.R_lt zz89) k_ hk_), (Kd.freshB (g := gb101) (o := .cells #[.int .i64 0, .slice none 0 0] 31 (0, 0)) zz34 k_ hk_), (Kd.freshB (g := gb112) (o := .cells #[.int .i64 3, .slice Ao38 y121.length co38] 31 (0, 0)) zz103 k_ hk_), (IsS93.fresh zz72 k_ hk_)⟩)) (below_size zz29)) (blk_below (g := gb101) (o := .cells #[.int .i64 0, .slice none 0 0] 31 (0, 0)) zz34 hb) (IsS93.below (show IsS93 w ((w36.setCell ⟨gb112, 0, none⟩ (.int .i64 3)).setCell ⟨gb112, 1, none⟩ (.slice Ao38 y121.length co38)) g105 t102 t110 t111 from by repeat (first | (with_reducible first | exact HI105.out | apply IsS93.alloc | apply IsS93.drewN | apply IsS93.drew | apply IsS93.set_1 | apply IsS93.set_2 | refine IsS93.far ?_ NB105_101.out _ | refine IsS93.far ?_ NB105_112.out _) | exact HI105.out)) hb) (blk_below (g := gb112) (o := .cells #[.int .i64 3, .slice Ao38 y121.length co38] 31 (0, 0)) zz103 hb) (below_step zz29 hb); clear HO109 HO115 HO123 BK101 HI105 BK112 HB; obtain ⟨HO109, HO115, HO123, HO126, BK101, HI105, BK112, HB⟩ := n_; clear ho0 hb))); have n_ := zA8 (Kd.R_drew HO109.out) (Kd.N_drew HO115.out) (Kd.R_drew HO123.out) (Kd.N_drew HO126.out) (blk_drew BK101.out) (blk_drew BK112.out) (IsS93.drew HI105.out) (below_drew1 HB.out); clear HO109 HO115 HO123 HO126 BK101 BK112 HI105 HB; obtain ⟨HO109, HO115, HO123, HO126, BK101, BK112, HI105, HB⟩ := n_; obtain ⟨Ao42, co42, eo42⟩ := Kd.N_slice HO126.out; (first | subst eo42 | (injection eo42 with f1_ f2_ f3_; have f4_ := f1_.symm; have f5_ := f3_.symm; clear f1_ f2_ f3_; subst f4_; subst f5_)); have p131 : 0 ≤ (t128 : Int) := of_decide_eq_true zz4; have q131 : t128 < (t124.length : Int) := of_decide_eq_true zz4; obtain ⟨ad131, A131_0, c131_0, e131, hx131_0, hl131_0, hi131_0⟩ := at_L3 (Kd.N_reads' HO126.out).2.2 t128 p131 q131; cases e131; obtain ⟨ce131, hce131, hMe131, hcc131⟩ := Kd.N_get HO126.out [] t128 p131 (by first | exact q131 | exact of_decide_eq_true zz4 | (have e_ := (Kd.N_reads' HO126.out).1; omega)); obtain ⟨ua131_0, uc131_0, rfl, ul131_0, ge131_0⟩ := Kd.FK_slice_open hMe131; have hv131_0 := hcc131 0 _ rfl; rw [Nat.add_zero, show ((Kd.slice 3 (Kd.int .i64))).sz = 1 from rfl, Nat.mul_one] at hv131_0; replace hv131_0 := Option.some.inj (hv131_0.symm.trans hx131_0); injection hv131_0 with hva_ hvn_ hvc_; rw [hva_] at ge131_0; rw [hvc_] at ul131_0; have HL131_0 := Aside0.mk (show Kd.V (Kd.int .i64) 3 _ w.heap.size _ _ (rd_L3 t124 t128) from Kd.V_mk ul131_0 ge131_0); clear hva_ hvn_ hvc_ ge131_0 ul131_0; clear hcc131 hce131; have HR131_0 := Aside0.mk hi131_0; have HC131_0 := Aside0.mk hl131_0; clear hi131_0 hl131_0; replace p131 := eq_true p131; replace q131 := eq_true q131; refine start_ (n := 10) (S := fun w' => w'.cell? ⟨gb112, 0, none⟩ = some (.int .i64 3) ∧ w'.cell? ⟨gb112, 1, none⟩ = some (.slice Ao38 y121.length co38) ∧ w'.cell? (ad131.add (t128).toNat) = some (.slice A131_0 (rd_L3 t124 t128).length c131_0)) (ds := []) (zM 10 0) (by kernel_rfl) rfl rfl ⟨(blk_cell BK112.out 0).trans rfl, (blk_cell BK112.out 1).trans rfl, hx131_0⟩ (fun hHeld => ?_); refine with_tabW spec_MakeTree.tab7 spec_MakeTree.bits7 (fun HT_ HW_ => ?_); generalize w40.drew = w41 at HO109 HO115 HO123 HO126 BK101 BK112 HI105 HB HL131_0 HR131_0 hx131_0 hHeld ⊢; refine zQ 1 30 (zM 10 2) ?_
 refine zQ 2 31 (zM 10 6) ?_
 refine zQ 3 32 (zM 10 14) ?_
 refine zQ 4 33 (zM 10 30) ?_
 refine take_ (i := 0) (N := some 29) (v := ?_) (a' := ?_) (zM 10 31) rfl rfl (take_ofW HT_.out HW_.out (by kernel_rfl)) (fun _ _ _ h => h) (Or.inl ⟨by rfl, ?_⟩) hHeld ?_ ?_; rotate_left
 ·rintro w' ⟨s0, s1, s2⟩; exact zzT
 rotate_left
 ·exact zzS
 refine one_ (i := 5) (N := some 34) (zM 10 63) rfl rfl (one_of HT_.out (by kernel_rfl)) (by decide) (fun K hK => ?_); refine goes_ Try.func43 (by kernel_rfl) rfl #[.pointer (some ⟨g105, 0, none⟩), .int .i64 (t124.length : Int)] (by rfl) rfl rfl zz3 ?_; (with_reducible refine (spec_l01Below.calls g105 t102 t110 t111 (t124.length : Int) t128 t129 t130 w _ ?side1 ?side2 A24.out).mono ?_); (case side1 => repeat (first | (with_reducible first | exact HI105.out | apply IsS93.alloc | apply IsS93.drewN | apply IsS93.drew | apply IsS93.set_1 | apply IsS93.set_2 | refine IsS93.far ?_ NB105_101.out _ | refine IsS93.far ?_ NB105_112.out _) | exact HI105.out)); (case side2 => repeat (first | (with_reducible first | exact HB.out | apply below_alloc | apply pw_below_drewN | apply below_drew1 | refine below_set ?_ (IsS93.ge HI105.out) | refine below_set ?_ GE101.out | refine below_set ?_ GE112.out) | exact HB.out)); rintro e w43 ⟨rfl, hi, hb, hk⟩; have HS2_ := keep_cell hk (hHeld.2.2) (by first | (rw [add_block]; exact Kd.own_blk (IsS93.own_neN HI105.out HO126.out (by decide))) | (show (Addr.add _ _).block ≠ _; rw [add_block]; exact Kd.own_blk (IsS93.own_neN HI105.out HO126.out (by decide))) | exact Kd.own_blk (IsS93.own_neN HI105.out HO126.out (by decide))); refine ⟨_, rfl, ?_⟩; have n0_ := Aside0.mk (KeepBut.blk hk (g' := gb101) (o := .cells #[.int .i64 0, .slice none 0 0] 31 (0, 0)) zz0 NB101_105.out (by simp)); have n1_ := Aside0.mk (Kd.R_mono (Kd.R_keep (IsS93.apart (show IsS93 w _ g105 t102 t110 t111 from by repeat (first | (with_reducible first | exact HI105.out | apply IsS93.alloc | apply IsS93.drewN | apply IsS93.drew | apply IsS93.set_1 | apply IsS93.set_2 | refine IsS93.far ?_ NB105_101.out _ | refine IsS93.far ?_ NB105_112.out _) | exact HI105.out)) zz98 (by decide)) hk (fun _ h => h.2)) (fun _ h => h.1)); have n2_ := Aside0.mk (KeepBut.blk hk (g' := gb112) (o := .cells #[.int .i64 3, .slice Ao38 y121.length co38] 31 (0, 0)) (by (with_reducible repeat (first | refine blk_drewN ?_ _ | refine blk_drew ?_ | refine blk_alloc ?_ _)); exact BK112.out) NB112_105.out (by simp)); have n3_ := Aside0.mk (Kd.N_mono (Kd.N_keep (Kd.N_mono (ok := fun k_ => (((((w.heap.size ≤ k_)) ∧ (some k_ ≠ (.slice Ao34 t107.length co34 : Value).ownBlock ∧ (k_ ≠ gb101 ∧ (k_ ≠ gb112 ∧ k_ ≠ g105)))) ∧ some k_ ≠ (.slice Ao38 y121.length co38 : Value).ownBlock) ∧ some k_ ≠ (.slice (some ad131) t124.length co42 : Value).ownBlock)) (by (with_reducible repeat (first | apply Kd.N_alloc | apply Kd.N_drewN | apply Kd.N_drew)); exact HO115.out) (fun k_ hk_ => (⟨hk_, hk_.1.1.2.2.2.2⟩ : _ ∧ k_ ≠ g105))) hk (fun _ h => h.2)) (fun _ h => h.1)); have n4_ := Aside0.mk (Kd.R_mono (Kd.R_keep (IsS93.apart (show IsS93 w _ g105 t102 t110 t111 from by repeat (first | (with_reducible first | exact HI105.out | apply IsS93.alloc | apply IsS93.drewN | apply IsS93.drew | apply IsS93.set_1 | apply IsS93.set_2 | refine IsS93.far ?_ NB105_101.out _ | refine IsS93.far ?_ NB105_112.out _) | exact HI105.out)) (by (with_reducible repeat (first | apply Kd.R_alloc | apply Kd.R_drewN | apply Kd.R_drew)); exact HO123.out) (by decide)) hk (fun _ h => h.2)) (fun _ h => h.1)); have n5_ := Aside0.mk (Kd.N_mono (Kd.N_keep (Kd.N_mono (ok := fun k_ => (((w.heap.size ≤ k_)) ∧ (some k_ ≠ (.slice Ao34 t107.length co34 : Value).ownBlock ∧ (some k_ ≠ (v114 : Value).ownBlock ∧ (some k_ ≠ (.slice Ao38 y121.length co38 : Value).ownBlock ∧ (k_ ≠ gb101 ∧ (k_ ≠ gb112 ∧ k_ ≠ g105))))))) (by (with_reducible repeat (first | apply Kd.N_alloc | apply Kd.N_drewN | apply Kd.N_drew)); exact HO126.out) (fun k_ hk_ => (⟨hk_, hk_.2.2.2.2.2.2⟩ : _ ∧ k_ ≠ g105))) hk (fun _ h => h.2)) (fun _ h => h.1)); have n6_ := Aside0.mk (hb); have n7_ := Aside0.mk (hi); have HL131_0 := Aside0.mk (Kd.V_keep HL131_0.out hk (fun k_ hk_ => by first | exact hk_.1.2.2.2.2 | exact hk_.1.2.2.2.2.2.2)); clear BK101; clear HO109; clear BK112; clear HO115; clear HO123; clear HO126; clear HB; clear HI105; have BK101 := n0_; have HO109 := n1_; have BK112 := n2_; have HO115 := n3_; have HO123 := n4_; have HO126 := n5_; have HB := n6_; have HI105 := n7_; clear n0_ n1_ n2_ n3_ n4_ n5_ n6_ n7_; (try clear hb); (try clear hb2); (try clear hk); (try clear hi); refine hK.out _ _ ⟨(blk_cell BK112.out 0).trans rfl, (blk_cell BK112.out 1).trans rfl, HS2_⟩ (fun hHeld => ?_); clear hK K; refine norm_ (a' := ?_) ?_ ?_; rotate_left
 ·show Act.put _ (some 34) _ = _; exact zzS
 refine zQ 6 35 (zM 10 127) ?_
 refine take_ (i := 7) (N := some 36) (v := ?_) (a' := ?_) (zM 10 255) rfl rfl (take_ofW HT_.out HW_.out (by kernel_rfl)) (fun _ _ _ h => h) (Or.inl ⟨by rfl, ?_⟩) hHeld ?_ ?_; rotate_left
 ·rintro w' ⟨s0, s1, s2⟩; exact zzT
 rotate_left
 ·exact zzS
 refine one_ (i := 8) (N := none) (zM 10 511) rfl rfl (one_of HT_.out (by kernel_rfl)) (by decide) (fun K hK => ?_); have hs44 : w43.cell? ⟨gb101, 0, none⟩ = some (.int .i64 0) := (blk_cell BK101.out 0).trans rfl; have hfs44 := blk_frozen BK101.out 0; have hns44_1 := NB112_101.out; have hms44_1 := NB101_112.out; have hs45 : w43.cell? ⟨gb101, 1, none⟩ = some (.slice none 0 0) := (blk_cell BK101.out 1).trans rfl; have hfs45 := blk_frozen BK101.out 1; have hns45_1 := NB112_101.out; have hms45_1 := NB101_112.out; refine skip_ (w1 := ?_) (by rfl) rfl ?_ ?_; rotate_left
 ·go_simp; rfl
 refine hK.out _ _ ⟨((cell_far (p := ⟨gb101, _, none⟩) NB112_101.out _).trans (((cell_far (p := ⟨gb101, _, none⟩) NB112_101.out _).trans (hHeld.1)))), ((cell_far (p := ⟨gb101, _, none⟩) NB112_101.out _).trans (((cell_far (p := ⟨gb101, _, none⟩) NB112_101.out _).trans (hHeld.2.1)))), ((cell_far (p := ⟨gb101, _, none⟩) zz125 _).trans (((cell_far (p := ⟨gb101, _, none⟩) zz125 _).trans (hHeld.2.2))))⟩ (fun hHeld => ?_); clear hK K; refine zQ 9 3 (zM 10 1023) ?_
 refine done_ (done_of HT_.out (by kernel_rfl)) ?_; (try go_wp2); refine bodyPost_ret (results_ct rfl _ _ gb101 31 #[.int .i64 3, .slice Ao38 y121.length co38] (0, 0) _ rfl (by (with_reducible repeat (first | refine blk_drewN ?_ _ | refine blk_drew ?_ | refine blk_alloc ?_ _)); refine blk_put (cs := #[.int .i64 3, .slice none 0 0]) ?_ 1 _ rfl; (with_reducible repeat (first | refine blk_drewN ?_ _ | refine blk_drew ?_ | refine blk_alloc ?_ _)); refine blk_put (cs := #[.int .i64 0, .slice none 0 0]) ?_ 0 _ rfl; (with_reducible repeat (first | refine blk_drewN ?_ _ | refine blk_drew ?_ | refine blk_alloc ?_ _)); exact BK101.out) Try.underlying31 rfl (by kernel_rfl)) rfl ?_; exact ⟨_, _, zz9, by (with_reducible repeat (first | apply Kd.R_alloc | apply Kd.R_drewN | apply Kd.R_drew)); exact Kd.R_mono (Kd.R_far (p := ⟨gb101, 1, none⟩) (Kd.R_far (p := ⟨gb101, 0, none⟩) (Kd.R_types HO123.out BK101.out (by decide)) (fun _ hk => hk.2) (.int .i64 3)) (fun _ hk => hk.2) (.slice Ao38 y121.length co38)) (fun _ hk => hk.1.1.1), by (with_reducible repeat (first | apply Kd.V_alloc | apply Kd.V_drewN | apply Kd.V_drew)); exact Kd.V_mono (Kd.V_far (p := ⟨gb101, 1, none⟩) (Kd.V_far (p := ⟨gb101, 0, none⟩) (Kd.V_mono HL131_0.out (fun k_ hk => (⟨hk, hk.1.2.2.2.2.1⟩ : _ ∧ k_ ≠ gb101))) (fun _ hk => hk.2) (.int .i64 3)) (fun _ hk => hk.2) (.slice Ao38 y121.length co38)) (fun _ hk => ⟨hk.1.1.1, hk.1.1.2.2.2.1⟩), by repeat (first | (with_reducible first | exact HB.out | apply below_alloc | apply pw_below_drewN | apply below_drew1 | refine below_set ?_ (IsS93.ge HI105.out) | refine below_set ?_ GE101.out | refine below_set ?_ GE112.out) | exact HB.out)⟩
mutual
def impl_connected.l0 : Nat → Int → List (S67) → Int → Int → Int → Option (Bool)
 | 0, _, _, _, _, _ => none
 | k + 1, x0, x1, x5, x8, x9 => if x9 < x8 then (impl_connected.l1 k x0 x1 x5 x8 x9 x1 (x1.length : Int) 0) else (if 0 ≤ x0 then (some (x5 == (wrap64 ((shl .i64 1 x0) - 1)))) else (none))
def impl_connected.l1 : Nat → Int → List (S67) → Int → Int → Int → List (S67) → Int → Int → Option (Bool)
 | 0, _, _, _, _, _, _, _, _ => none
 | k + 1, x0, x1, x5, x8, x9, x11, x12, x13 => if x13 < x12 then (if 0 ≤ x13 then (if x13 < (x11.length : Int) then (if 0 ≤ ((rd_T67 x11 x13).f0) then (if (Go.bits .and .i64 (shr .i64 x5 ((rd_T67 x11 x13).f0)) 1) = 1 then (if 0 ≤ ((rd_T67 x11 x13).f1) then (impl_connected.l1 k x0 x1 (Go.bits .or .i64 x5 (Go.bits .or .i64 (shl .i64 1 ((rd_T67 x11 x13).f0)) (shl .i64 1 ((rd_T67 x11 x13).f1)))) x8 x9 x11 x12 (wrap64 (x13 + 1))) else (none)) else (if 0 ≤ ((rd_T67 x11 x13).f1) then (if (Go.bits .and .i64 (shr .i64 x5 ((rd_T67 x11 x13).f1)) 1) = 1 then (impl_connected.l1 k x0 x1 (Go.bits .or .i64 x5 (Go.bits .or .i64 (shl .i64 1 ((rd_T67 x11 x13).f0)) (shl .i64 1 ((rd_T67 x11 x13).f1)))) x8 x9 x11 x12 (wrap64 (x13 + 1))) else (impl_connected.l1 k x0 x1 x5 x8 x9 x11 x12 (wrap64 (x13 + 1)))) else (none))) else (none)) else (none)) else (none)) else (impl_connected.l0 k x0 x1 x5 x8 (wrap64 (x9 + 1)))
end
def impl_connected.f (k : Nat) (a0 : Int) (l1 : List (S67)) : Option (Bool) := impl_connected.l0 k a0 l1 1 a0 0
theorem impl_connected.mono_l : ∀ k, (∀ y0 y1 y2 y3 y4, LeO (impl_connected.l0 k y0 y1 y2 y3 y4) (impl_connected.l0 (k + 1) y0 y1 y2 y3 y4)) ∧ (∀ y0 y1 y2 y3 y4 y5 y6 y7, LeO (impl_connected.l1 k y0 y1 y2 y3 y4 y5 y6 y7) (impl_connected.l1 (k + 1) y0 y1 y2 y3 y4 y5 y6 y7))
 | 0 => ⟨fun _ _ _ _ _ r h => by simp [impl_connected.l0] at h, fun _ _ _ _ _ _ _ _ r h => by simp [impl_connected.l1] at h⟩
 | k + 1 => by
  obtain ⟨ih0, ih1⟩ := impl_connected.mono_l k
  refine ⟨?_, ?_⟩
  ·intro y0 y1 y2 y3 y4
   unfold impl_connected.l0
   exact zm0
  ·intro y0 y1 y2 y3 y4 y5 y6 y7
   unfold impl_connected.l1
   exact zm0
theorem impl_connected.mono : ∀ a0 a1 k, LeO (impl_connected.f k a0 a1) (impl_connected.f (k + 1) a0 a1) := by
 intro a0 a1 k; obtain ⟨ih0, ih1⟩ := impl_connected.mono_l k; unfold impl_connected.f; exact zm0
set_option maxHeartbeats 8000000 in
set_option maxRecDepth 100000 in
theorem impl_connected.calls (k : Nat) (a0 : Int) (A1 : Option Addr) (c1 : Nat) (l1 : List (S67)) (r : Bool) (w : World) (hr1 : Kd.C k67 w A1 l1.length l1) (hc1 : l1.length ≤ c1) (h : impl_connected.f k a0 l1 = some r) :
  Calls Try.prog 51 #[.int .i64 a0, .slice A1 l1.length c1] w fun e w' => e = .returned (.bool r) ∧ Below w.heap.size w w' := by
 have hu67 := Try.underlying67; have HR1 := Aside0.mk hr1; have HC1 := Aside0.mk hc1; clear hr1 hc1; have HB := Aside0.mk (Below.refl w.heap.size w); have H : (impl_connected.l0 k a0 l1 1 a0 0) = some r := h; clear h; have H' := Aside0.mk H; clear H; go_enter Try.func51, Try.ntmps51; go_wp2; (repeat (go_quiet (fail); try go_wp2)); (go_loopg [5, 9] k (fun kq v5 v9 w' => ∃ (x5_1 : Int) (x9_1 : Int), v5 = .int .i64 x5_1 ∧ v9 = .int .i64 x9_1 ∧ Aside0 (impl_connected.l0 kq a0 l1 x5_1 a0 x9_1 = some r) ∧ Aside0 (kq ≤ k) ∧ Aside0 (Below w.heap.size w w'))); case atStart => exact ⟨(1), (0), zz7, zz7, H', ⟨Nat.le_refl _⟩, ⟨zz2⟩⟩
 case round =>
  clear H'; (try clear c1); (try clear p2); obtain ⟨x5_1, x9_1, rfl, rfl, HA, HK1, HB⟩ := hrel
  cases gk with
  | zero => exact absurd HA.out (by simp [impl_connected.l0])
  | succ k1 =>
   have H := HA.out; clear HA; simp only [impl_connected.l0] at H; by_cases c3 : x9_1 < a0; rotate_left
   ·rw [if_neg c3] at H; have c3b0 := decide_eq_false c3; clear c3; by_cases c27 : 0 ≤ a0; rotate_left
    ·rw [if_neg c27] at H; exact absurd H (by simp)
    rw [if_pos c27] at H; have c27b0 := eq_true c27; have c27b1 : decide (0 ≤ a0) = true := decide_eq_true c27; clear c27; obtain ⟨ji28, hji28⟩ : ∃ j_ : Int, (shl .i64 1 a0) = j_ := ⟨_, rfl⟩; (replace H : (some (x5_1 == (wrap64 ((ji28) - 1)))) = some r := by first | (rw [hji28] at H; exact H) | (simp only [hji28] at H ⊢; exact H)); have hji28_ : (IntKind.i64.wrap (1 * 2 ^ min a0.toNat 64)) = ji28 := hji28; have hji28z : a0 ≤ 64 → (IntKind.i64.wrap (1 * 2 ^ a0.toNat)) = ji28 := shl_small hji28; (have hji28u : (IntKind.i64.wrap (2 ^ min a0.toNat 64)) = ji28 := by have h_ := hji28_; rw [Int.one_mul] at h_; exact h_); (have hji28v : a0 ≤ 64 → (IntKind.i64.wrap (2 ^ a0.toNat)) = ji28 := fun hle_ => by have h_ := hji28z hle_; rw [Int.one_mul] at h_; exact h_); have hji28y : (wrap64 (1 * 2 ^ min a0.toNat 64)) = ji28 := (i64_w _).symm.trans hji28_; (have hji28x : a0 ≤ 64 → (wrap64 (1 * 2 ^ a0.toNat)) = ji28 := fun h_ => (i64_w _).symm.trans (hji28z h_)); obtain rfl := Option.some.inj H; go_wp2; (repeat (go_quiet (fail); try go_wp2)); go_ret; exact ⟨by first | rfl | (simp [errW_none, errW_some] <;> rfl) | (simp only [← hji28]; first | rfl | (simp [errW_none, errW_some] <;> rfl)) | (simp [*, errW_none, errW_some] <;> rfl), zz2⟩
   rw [if_pos c3] at H; have c3b0 := decide_eq_true c3; clear c3; have H' := Aside0.mk H; clear H; go_wp2; (repeat (go_quiet (fail); try go_wp2)); (go_loopg [5, 13] k1 (fun kq v5 v13 w' => ∃ (x5_2 : Int) (x13_2 : Int), v5 = .int .i64 x5_2 ∧ v13 = .int .i64 x13_2 ∧ Aside0 (impl_connected.l1 kq a0 l1 x5_2 a0 x9_1 l1 (l1.length : Int) x13_2 = some r) ∧ Aside0 (kq ≤ k1) ∧ Aside0 (Below w.heap.size w w'))); case atStart => exact ⟨(x5_1), (0), zz7, zz7, H', ⟨Nat.le_refl _⟩, ⟨zz2⟩⟩
   case round =>
    clear H'; (try clear c1); (try clear p2); (try clear c3); (try clear c3b0); (try clear p2); obtain ⟨x5_2, x13_2, rfl, rfl, HA, HK2, HB⟩ := hrel
    cases gk with
    | zero => exact absurd HA.out (by simp [impl_connected.l1])
    | succ k2 =>
     have H := HA.out; clear HA; simp only [impl_connected.l1] at H; by_cases c4 : x13_2 < (l1.length : Int); rotate_left
     ·rw [if_neg c4] at H; have c4b0 := decide_eq_false c4; clear c4; have H' := Aside0.mk H; clear H; go_wp2; (repeat (go_quiet (fail); try go_wp2)); go_roundg k2; (case measure => have := HK1.out; have := HK2.out; omega); case rel => exact ⟨(x5_2), (wrap64 (x9_1 + 1)), zz7, zz7, H', ⟨zz118⟩, ⟨zz2⟩⟩
     rw [if_pos c4] at H; have c4b0 := decide_eq_true c4; clear c4; by_cases c5 : 0 ≤ x13_2; rotate_left
     ·rw [if_neg c5] at H; exact absurd H (by simp)
     rw [if_pos c5] at H; have c5b0 := decide_eq_true c5; clear c5; by_cases c6 : x13_2 < (l1.length : Int); rotate_left
     ·rw [if_neg c6] at H; exact absurd H (by simp)
     rw [if_pos c6] at H; have c6b0 := decide_eq_true c6; clear c6; by_cases c7 : 0 ≤ ((rd_T67 l1 x13_2).f0); rotate_left
     ·rw [if_neg c7] at H; exact absurd H (by simp)
     rw [if_pos c7] at H; have c7b0 := eq_true c7; have c7b1 : decide (0 ≤ ((rd_T67 l1 x13_2).f0)) = true := decide_eq_true c7; clear c7; obtain ⟨ji8, hji8⟩ : ∃ j_ : Int, (shr .i64 x5_2 ((rd_T67 l1 x13_2).f0)) = j_ := ⟨_, rfl⟩; (replace H : (if (Go.bits .and .i64 (ji8) 1) = 1 then (if 0 ≤ ((rd_T67 l1 x13_2).f1) then (impl_connected.l1 k2 a0 l1 (Go.bits .or .i64 x5_2 (Go.bits .or .i64 (shl .i64 1 ((rd_T67 l1 x13_2).f0)) (shl .i64 1 ((rd_T67 l1 x13_2).f1)))) a0 x9_1 l1 (l1.length : Int) (wrap64 (x13_2 + 1))) else (none)) else (if 0 ≤ ((rd_T67 l1 x13_2).f1) then (if (Go.bits .and .i64 (shr .i64 x5_2 ((rd_T67 l1 x13_2).f1)) 1) = 1 then (impl_connected.l1 k2 a0 l1 (Go.bits .or .i64 x5_2 (Go.bits .or .i64 (shl .i64 1 ((rd_T67 l1 x13_2).f0)) (shl .i64 1 ((rd_T67 l1 x13_2).f1)))) a0 x9_1 l1 (l1.length : Int) (wrap64 (x13_2 + 1))) else (impl_connected.l1 k2 a0 l1 x5_2 a0 x9_1 l1 (l1.length : Int) (wrap64 (x13_2 + 1)))) else (none))) = some r := by first | (rw [hji8] at H; exact H) | (simp only [hji8] at H ⊢; exact H)); have hji8_ : (x5_2 / 2 ^ min ((rd_T67 l1 x13_2).f0).toNat 64) = ji8 := hji8; have hji8z : ((rd_T67 l1 x13_2).f0) ≤ 64 → (x5_2 / 2 ^ ((rd_T67 l1 x13_2).f0).toNat) = ji8 := shr_small hji8; by_cases c9 : (Go.bits .and .i64 (ji8) 1) = 1
     ·rw [if_pos c9] at H; have c9b0 : ((Go.bits .and .i64 (ji8) 1) == 1) = true := beq_iff_eq.mpr c9; have c9b1 : ((Go.bits .and .i64 (ji8) 1) != 1) = false := bne_eq_false_iff_eq.mpr c9; clear c9; have c10b0 := eq_true (of_decide_eq_true zz4 : 0 ≤ ((rd_T67 l1 x13_2).f0)); obtain ⟨ji11, hji11⟩ : ∃ j_ : Int, (shl .i64 1 ((rd_T67 l1 x13_2).f0)) = j_ := ⟨_, rfl⟩; (replace H : (if 0 ≤ ((rd_T67 l1 x13_2).f1) then (impl_connected.l1 k2 a0 l1 (Go.bits .or .i64 x5_2 (Go.bits .or .i64 (ji11) (shl .i64 1 ((rd_T67 l1 x13_2).f1)))) a0 x9_1 l1 (l1.length : Int) (wrap64 (x13_2 + 1))) else (none)) = some r := by first | (rw [hji11] at H; exact H) | (simp only [hji11] at H ⊢; exact H)); have hji11_ : (IntKind.i64.wrap (1 * 2 ^ min ((rd_T67 l1 x13_2).f0).toNat 64)) = ji11 := hji11; have hji11z : ((rd_T67 l1 x13_2).f0) ≤ 64 → (IntKind.i64.wrap (1 * 2 ^ ((rd_T67 l1 x13_2).f0).toNat)) = ji11 := shl_small hji11; (have hji11u : (IntKind.i64.wrap (2 ^ min ((rd_T67 l1 x13_2).f0).toNat 64)) = ji11 := by have h_ := hji11_; rw [Int.one_mul] at h_; exact h_); (have hji11v : ((rd_T67 l1 x13_2).f0) ≤ 64 → (IntKind.i64.wrap (2 ^ ((rd_T67 l1 x13_2).f0).toNat)) = ji11 := fun hle_ => by have h_ := hji11z hle_; rw [Int.one_mul] at h_; exact h_); have hji11y : (wrap64 (1 * 2 ^ min ((rd_T67 l1 x13_2).f0).toNat 64)) = ji11 := (i64_w _).symm.trans hji11_; (have hji11x : ((rd_T67 l1 x13_2).f0) ≤ 64 → (wrap64 (1 * 2 ^ ((rd_T67 l1 x13_2).f0).toNat)) = ji11 := fun h_ => (i64_w _).symm.trans (hji11z h_)); by_cases c12 : 0 ≤ ((rd_T67 l1 x13_2).f1); rotate_left
      ·rw [if_neg c12] at H; exact absurd H (by simp)
      rw [if_pos c12] at H; have c12b0 := eq_true c12; have c12b1 : decide (0 ≤ ((rd_T67 l1 x13_2).f1)) = true := decide_eq_true c12; clear c12; obtain ⟨ji13, hji13⟩ : ∃ j_ : Int, (shl .i64 1 ((rd_T67 l1 x13_2).f1)) = j_ := ⟨_, rfl⟩; (replace H : (impl_connected.l1 k2 a0 l1 (Go.bits .or .i64 x5_2 (Go.bits .or .i64 (ji11) (ji13))) a0 x9_1 l1 (l1.length : Int) (wrap64 (x13_2 + 1))) = some r := by first | (rw [hji13] at H; exact H) | (simp only [hji13] at H ⊢; exact H)); have hji13_ : (IntKind.i64.wrap (1 * 2 ^ min ((rd_T67 l1 x13_2).f1).toNat 64)) = ji13 := hji13; have hji13z : ((rd_T67 l1 x13_2).f1) ≤ 64 → (IntKind.i64.wrap (1 * 2 ^ ((rd_T67 l1 x13_2).f1).toNat)) = ji13 := shl_small hji13; (have hji13u : (IntKind.i64.wrap (2 ^ min ((rd_T67 l1 x13_2).f1).toNat 64)) = ji13 := by have h_ := hji13_; rw [Int.one_mul] at h_; exact h_); (have hji13v : ((rd_T67 l1 x13_2).f1) ≤ 64 → (IntKind.i64.wrap (2 ^ ((rd_T67 l1 x13_2).f1).toNat)) = ji13 := fun hle_ => by have h_ := hji13z hle_; rw [Int.one_mul] at h_; exact h_); have hji13y : (wrap64 (1 * 2 ^ min ((rd_T67 l1 x13_2).f1).toNat 64)) = ji13 := (i64_w _).symm.trans hji13_; (have hji13x : ((rd_T67 l1 x13_2).f1) ≤ 64 → (wrap64 (1 * 2 ^ ((rd_T67 l1 x13_2).f1).toNat)) = ji13 := fun h_ => (i64_w _).symm.trans (hji13z h_)); have H' := Aside0.mk H; clear H; have p101 : 0 ≤ (x13_2 : Int) := of_decide_eq_true zz4; have q101 : x13_2 < (l1.length : Int) := of_decide_eq_true zz4; obtain ⟨ad101, e101, hx101_0, hx101_1⟩ := at_T67 HR1.out x13_2 p101 q101; cases e101; replace hx101_0 := (HB.out.cell (World.block_lt_of_cell? w _ hx101_0)).trans hx101_0; replace hx101_1 := (HB.out.cell (World.block_lt_of_cell? w _ hx101_1)).trans hx101_1; replace p101 := eq_true p101; replace q101 := eq_true q101; (go_wp2_with (first | ((with_reducible refine gate_dst (N := 7) rfl ?_); refine box_event ?hg (N := 7) ?hd (cs := #[.int .i64 0, .int .i64 0]) (t := 67) ?hr ?_; (case hd => rfl); (case hg => rfl); (case hr => exact zz18); intro gb102 hg w14 hbox hb; have n_ := zA4 (below_step zz2 hb) hbox (zz23 : w.heap.size ≤ gb102) (zz23 : w.heap.size ≤ gb102); clear HB; obtain ⟨HB, BK102, GW102, GE102⟩ := n_; clear hb hbox hg; have hcz15_0 := zC20 BK102; have hcz15_1 := zC21 BK102; have hfz15_0 := blk_frozen BK102.out 0; have hfz15_1 := blk_frozen BK102.out 1))); (repeat (go_quiet (first | ((with_reducible refine gate_dst (N := 7) rfl ?_); refine box_event ?hg (N := 7) ?hd (cs := #[.int .i64 0, .int .i64 0]) (t := 67) ?hr ?_; (case hd => rfl); (case hg => rfl); (case hr => exact zz18); intro gb102 hg w14 hbox hb; have n_ := zA4 (below_step zz2 hb) hbox (zz23 : w.heap.size ≤ gb102) (zz23 : w.heap.size ≤ gb102); clear HB; obtain ⟨HB, BK102, GW102, GE102⟩ := n_; clear hb hbox hg; have hcz15_0 := zC20 BK102; have hcz15_1 := zC21 BK102; have hfz15_0 := blk_frozen BK102.out 0; have hfz15_1 := blk_frozen BK102.out 1)); try go_wp2_with (first | ((with_reducible refine gate_dst (N := 7) rfl ?_); refine box_event ?hg (N := 7) ?hd (cs := #[.int .i64 0, .int .i64 0]) (t := 67) ?hr ?_; (case hd => rfl); (case hg => rfl); (case hr => exact zz18); intro gb102 hg w14 hbox hb; have n_ := zA4 (below_step zz2 hb) hbox (zz23 : w.heap.size ≤ gb102) (zz23 : w.heap.size ≤ gb102); clear HB; obtain ⟨HB, BK102, GW102, GE102⟩ := n_; clear hb hbox hg; have hcz15_0 := zC20 BK102; have hcz15_1 := zC21 BK102; have hfz15_0 := blk_frozen BK102.out 0; have hfz15_1 := blk_frozen BK102.out 1)))); go_roundg k2; (case measure => have := HK1.out; have := HK2.out; omega); case rel => exact ⟨(Go.bits .or .i64 x5_2 (Go.bits .or .i64 (ji11) (ji13))), (wrap64 (x13_2 + 1)), (by first | rfl | (simp; done) | (simp only [← hji11, ← hji13] <;> (first | rfl | simp)) | (simp [*]; done)), zz7, H', ⟨zz118⟩, ⟨zz102⟩⟩
     rw [if_neg c9] at H; have c9b0 : ((Go.bits .and .i64 (ji8) 1) == 1) = false := beq_eq_false_iff_ne.mpr c9; have c9b1 : ((Go.bits .and .i64 (ji8) 1) != 1) = true := bne_iff_ne.mpr c9; by_cases c16 : 0 ≤ ((rd_T67 l1 x13_2).f1); rotate_left
     ·rw [if_neg c16] at H; exact absurd H (by simp)
     rw [if_pos c16] at H; have c16b0 := eq_true c16; have c16b1 : decide (0 ≤ ((rd_T67 l1 x13_2).f1)) = true := decide_eq_true c16; clear c16; obtain ⟨ji17, hji17⟩ : ∃ j_ : Int, (shr .i64 x5_2 ((rd_T67 l1 x13_2).f1)) = j_ := ⟨_, rfl⟩; (replace H : (if (Go.bits .and .i64 (ji17) 1) = 1 then (impl_connected.l1 k2 a0 l1 (Go.bits .or .i64 x5_2 (Go.bits .or .i64 (shl .i64 1 ((rd_T67 l1 x13_2).f0)) (shl .i64 1 ((rd_T67 l1 x13_2).f1)))) a0 x9_1 l1 (l1.length : Int) (wrap64 (x13_2 + 1))) else (impl_connected.l1 k2 a0 l1 x5_2 a0 x9_1 l1 (l1.length : Int) (wrap64 (x13_2 + 1)))) = some r := by first | (rw [hji17] at H; exact H) | (simp only [hji17] at H ⊢; exact H)); have hji17_ : (x5_2 / 2 ^ min ((rd_T67 l1 x13_2).f1).toNat 64) = ji17 := hji17; have hji17z : ((rd_T67 l1 x13_2).f1) ≤ 64 → (x5_2 / 2 ^ ((rd_T67 l1 x13_2).f1).toNat) = ji17 := shr_small hji17; by_cases c18 : (Go.bits .and .i64 (ji17) 1) = 1; rotate_left
     ·rw [if_neg c18] at H; have c18b0 : ((Go.bits .and .i64 (ji17) 1) == 1) = false := beq_eq_false_iff_ne.mpr c18; have c18b1 : ((Go.bits .and .i64 (ji17) 1) != 1) = true := bne_iff_ne.mpr c18; have H' := Aside0.mk H; clear H; have p101 : 0 ≤ (x13_2 : Int) := of_decide_eq_true zz4; have q101 : x13_2 < (l1.length : Int) := of_decide_eq_true zz4; obtain ⟨ad101, e101, hx101_0, hx101_1⟩ := at_T67 HR1.out x13_2 p101 q101; cases e101; replace hx101_0 := (HB.out.cell (World.block_lt_of_cell? w _ hx101_0)).trans hx101_0; replace hx101_1 := (HB.out.cell (World.block_lt_of_cell? w _ hx101_1)).trans hx101_1; replace p101 := eq_true p101; replace q101 := eq_true q101; (go_wp2_with (first | ((with_reducible refine gate_dst (N := 7) rfl ?_); refine box_event ?hg (N := 7) ?hd (cs := #[.int .i64 0, .int .i64 0]) (t := 67) ?hr ?_; (case hd => rfl); (case hg => rfl); (case hr => exact zz18); intro gb102 hg w25 hbox hb; have n_ := zA4 (below_step zz2 hb) hbox (zz23 : w.heap.size ≤ gb102) (zz23 : w.heap.size ≤ gb102); clear HB; obtain ⟨HB, BK102, GW102, GE102⟩ := n_; clear hb hbox hg; have hcz26_0 := zC20 BK102; have hcz26_1 := zC21 BK102; have hfz26_0 := blk_frozen BK102.out 0; have hfz26_1 := blk_frozen BK102.out 1))); (repeat (go_quiet (first | ((with_reducible refine gate_dst (N := 7) rfl ?_); refine box_event ?hg (N := 7) ?hd (cs := #[.int .i64 0, .int .i64 0]) (t := 67) ?hr ?_; (case hd => rfl); (case hg => rfl); (case hr => exact zz18); intro gb102 hg w25 hbox hb; have n_ := zA4 (below_step zz2 hb) hbox (zz23 : w.heap.size ≤ gb102) (zz23 : w.heap.size ≤ gb102); clear HB; obtain ⟨HB, BK102, GW102, GE102⟩ := n_; clear hb hbox hg; have hcz26_0 := zC20 BK102; have hcz26_1 := zC21 BK102; have hfz26_0 := blk_frozen BK102.out 0; have hfz26_1 := blk_frozen BK102.out 1)); try go_wp2_with (first | ((with_reducible refine gate_dst (N := 7) rfl ?_); refine box_event ?hg (N := 7) ?hd (cs := #[.int .i64 0, .int .i64 0]) (t := 67) ?hr ?_; (case hd => rfl); (case hg => rfl); (case hr => exact zz18); intro gb102 hg w25 hbox hb; have n_ := zA4 (below_step zz2 hb) hbox (zz23 : w.heap.size ≤ gb102) (zz23 : w.heap.size ≤ gb102); clear HB; obtain ⟨HB, BK102, GW102, GE102⟩ := n_; clear hb hbox hg; have hcz26_0 := zC20 BK102; have hcz26_1 := zC21 BK102; have hfz26_0 := blk_frozen BK102.out 0; have hfz26_1 := blk_frozen BK102.out 1)))); go_roundg k2; (case measure => have := HK1.out; have := HK2.out; omega); case rel => exact ⟨(x5_2), (wrap64 (x13_2 + 1)), zz7, zz7, H', ⟨zz118⟩, ⟨zz102⟩⟩
     rw [if_pos c18] at H; have c18b0 : ((Go.bits .and .i64 (ji17) 1) == 1) = true := beq_iff_eq.mpr c18; have c18b1 : ((Go.bits .and .i64 (ji17) 1) != 1) = false := bne_eq_false_iff_eq.mpr c18; clear c18; have c19b0 := eq_true (of_decide_eq_true zz4 : 0 ≤ ((rd_T67 l1 x13_2).f0)); obtain ⟨ji20, hji20⟩ : ∃ j_ : Int, (shl .i64 1 ((rd_T67 l1 x13_2).f0)) = j_ := ⟨_, rfl⟩; (replace H : (impl_connected.l1 k2 a0 l1 (Go.bits .or .i64 x5_2 (Go.bits .or .i64 (ji20) (shl .i64 1 ((rd_T67 l1 x13_2).f1)))) a0 x9_1 l1 (l1.length : Int) (wrap64 (x13_2 + 1))) = some r := by first | (rw [hji20] at H; exact H) | (simp only [hji20] at H ⊢; exact H)); have hji20_ : (IntKind.i64.wrap (1 * 2 ^ min ((rd_T67 l1 x13_2).f0).toNat 64)) = ji20 := hji20; have hji20z : ((rd_T67 l1 x13_2).f0) ≤ 64 → (IntKind.i64.wrap (1 * 2 ^ ((rd_T67 l1 x13_2).f0).toNat)) = ji20 := shl_small hji20; (have hji20u : (IntKind.i64.wrap (2 ^ min ((rd_T67 l1 x13_2).f0).toNat 64)) = ji20 := by have h_ := hji20_; rw [Int.one_mul] at h_; exact h_); (have hji20v : ((rd_T67 l1 x13_2).f0) ≤ 64 → (IntKind.i64.wrap (2 ^ ((rd_T67 l1 x13_2).f0).toNat)) = ji20 := fun hle_ => by have h_ := hji20z hle_; rw [Int.one_mul] at h_; exact h_); have hji20y : (wrap64 (1 * 2 ^ min ((rd_T67 l1 x13_2).f0).toNat 64)) = ji20 := (i64_w _).symm.trans hji20_; (have hji20x : ((rd_T67 l1 x13_2).f0) ≤ 64 → (wrap64 (1 * 2 ^ ((rd_T67 l1 x13_2).f0).toNat)) = ji20 := fun h_ => (i64_w _).symm.trans (hji20z h_)); have c21b0 := eq_true (of_decide_eq_true zz4 : 0 ≤ ((rd_T67 l1 x13_2).f1)); obtain ⟨ji22, hji22⟩ : ∃ j_ : Int, (shl .i64 1 ((rd_T67 l1 x13_2).f1)) = j_ := ⟨_, rfl⟩; (replace H : (impl_connected.l1 k2 a0 l1 (Go.bits .or .i64 x5_2 (Go.bits .or .i64 (ji20) (ji22))) a0 x9_1 l1 (l1.length : Int) (wrap64 (x13_2 + 1))) = some r := by first | (rw [hji22] at H; exact H) | (simp only [hji22] at H ⊢; exact H)); have hji22_ : (IntKind.i64.wrap (1 * 2 ^ min ((rd_T67 l1 x13_2).f1).toNat 64)) = ji22 := hji22; have hji22z : ((rd_T67 l1 x13_2).f1) ≤ 64 → (IntKind.i64.wrap (1 * 2 ^ ((rd_T67 l1 x13_2).f1).toNat)) = ji22 := shl_small hji22; (have hji22u : (IntKind.i64.wrap (2 ^ min ((rd_T67 l1 x13_2).f1).toNat 64)) = ji22 := by have h_ := hji22_; rw [Int.one_mul] at h_; exact h_); (have hji22v : ((rd_T67 l1 x13_2).f1) ≤ 64 → (IntKind.i64.wrap (2 ^ ((rd_T67 l1 x13_2).f1).toNat)) = ji22 := fun hle_ => by have h_ := hji22z hle_; rw [Int.one_mul] at h_; exact h_); have hji22y : (wrap64 (1 * 2 ^ min ((rd_T67 l1 x13_2).f1).toNat 64)) = ji22 := (i64_w _).symm.trans hji22_; (have hji22x : ((rd_T67 l1 x13_2).f1) ≤ 64 → (wrap64 (1 * 2 ^ ((rd_T67 l1 x13_2).f1).toNat)) = ji22 := fun h_ => (i64_w _).symm.trans (hji22z h_)); have H' := Aside0.mk H; clear H; have p101 : 0 ≤ (x13_2 : Int) := of_decide_eq_true zz4; have q101 : x13_2 < (l1.length : Int) := of_decide_eq_true zz4; obtain ⟨ad101, e101, hx101_0, hx101_1⟩ := at_T67 HR1.out x13_2 p101 q101; cases e101; replace hx101_0 := (HB.out.cell (World.block_lt_of_cell? w _ hx101_0)).trans hx101_0; replace hx101_1 := (HB.out.cell (World.block_lt_of_cell? w _ hx101_1)).trans hx101_1; replace p101 := eq_true p101; replace q101 := eq_true q101; (go_wp2_with (first | ((with_reducible refine gate_dst (N := 7) rfl ?_); refine box_event ?hg (N := 7) ?hd (cs := #[.int .i64 0, .int .i64 0]) (t := 67) ?hr ?_; (case hd => rfl); (case hg => rfl); (case hr => exact zz18); intro gb102 hg w23 hbox hb; have n_ := zA4 (below_step zz2 hb) hbox (zz23 : w.heap.size ≤ gb102) (zz23 : w.heap.size ≤ gb102); clear HB; obtain ⟨HB, BK102, GW102, GE102⟩ := n_; clear hb hbox hg; have hcz24_0 := zC20 BK102; have hcz24_1 := zC21 BK102; have hfz24_0 := blk_frozen BK102.out 0; have hfz24_1 := blk_frozen BK102.out 1))); (repeat (go_quiet (first | ((with_reducible refine gate_dst (N := 7) rfl ?_); refine box_event ?hg (N := 7) ?hd (cs := #[.int .i64 0, .int .i64 0]) (t := 67) ?hr ?_; (case hd => rfl); (case hg => rfl); (case hr => exact zz18); intro gb102 hg w23 hbox hb; have n_ := zA4 (below_step zz2 hb) hbox (zz23 : w.heap.size ≤ gb102) (zz23 : w.heap.size ≤ gb102); clear HB; obtain ⟨HB, BK102, GW102, GE102⟩ := n_; clear hb hbox hg; have hcz24_0 := zC20 BK102; have hcz24_1 := zC21 BK102; have hfz24_0 := blk_frozen BK102.out 0; have hfz24_1 := blk_frozen BK102.out 1)); try go_wp2_with (first | ((with_reducible refine gate_dst (N := 7) rfl ?_); refine box_event ?hg (N := 7) ?hd (cs := #[.int .i64 0, .int .i64 0]) (t := 67) ?hr ?_; (case hd => rfl); (case hg => rfl); (case hr => exact zz18); intro gb102 hg w23 hbox hb; have n_ := zA4 (below_step zz2 hb) hbox (zz23 : w.heap.size ≤ gb102) (zz23 : w.heap.size ≤ gb102); clear HB; obtain ⟨HB, BK102, GW102, GE102⟩ := n_; clear hb hbox hg; have hcz24_0 := zC20 BK102; have hcz24_1 := zC21 BK102; have hfz24_0 := blk_frozen BK102.out 0; have hfz24_1 := blk_frozen BK102.out 1)))); go_roundg k2; (case measure => have := HK1.out; have := HK2.out; omega); case rel => exact ⟨(Go.bits .or .i64 x5_2 (Go.bits .or .i64 (ji20) (ji22))), (wrap64 (x13_2 + 1)), (by first | rfl | (simp; done) | (simp only [← hji20, ← hji22] <;> (first | rfl | simp)) | (simp [*]; done)), zz7, H', ⟨zz118⟩, ⟨zz102⟩⟩
end Go.Proofs.Ytdfibdjjoplmmaa.P
end

section
namespace Go.Proofs.Ytdfibdjjoplmmaa.P
open Go.RowKit Go.Proofs.YtdfibdjjoplmmaaW.PrintWords Go.Proofs.YtdfibdjjoplmmaaW.PrintLast Go.Proofs.YtdfibdjjoplmmaaW.PrintMore
attribute [local go_sem] max2_int min2_int max_two min_two max_three min_three max_four min_four
set_option linter.unusedVariables false
set_option linter.unusedSimpArgs false
def impl_within.f (a0 : Int) (a1 : Int) (a2 : Int) : Option (Bool) := if a0 ≥ a1 then (some (decide (a0 ≤ a2))) else (some false)
set_option maxHeartbeats 8000000 in
set_option maxRecDepth 100000 in
theorem impl_within.calls (a0 : Int) (a1 : Int) (a2 : Int) (r : Bool) (w : World) (h : impl_within.f a0 a1 a2 = some r) :
  Calls Try.prog 45 #[.int .i64 a0, .int .i64 a1, .int .i64 a2] w fun e w' => e = .returned (.bool r) ∧ Drawn0 w w' := by
 have H : (if a0 ≥ a1 then (some (decide (a0 ≤ a2))) else (some false)) = some r := h; clear h; by_cases c4 : a0 ≥ a1
 ·rw [if_pos c4] at H; have c4b0 : decide (a1 ≤ a0) = true := decide_eq_true c4; clear c4; obtain rfl := Option.some.inj H; go_enter Try.func45, Try.ntmps45; go_wp2; go_ret; exact ⟨zz7, by repeat (first | exact Drawn0.refl _ | apply Drawn0.step)⟩
 rw [if_neg c4] at H; have c4b0 : decide (a1 ≤ a0) = false := decide_eq_false c4; clear c4; obtain rfl := Option.some.inj H; go_enter Try.func45, Try.ntmps45; go_wp2; go_ret; exact ⟨zz7, by repeat (first | exact Drawn0.refl _ | apply Drawn0.step)⟩
mutual
def impl_EdgesOk.j0 : Nat → Bool → Int → List (S67) → Option (Bool)
 | 0, _, _, _ => none
 | k + 1, x14, x102000, x102001 => if x14 = true then (some false) else (impl_EdgesOk.l0 k x102001 (x102001.length : Int) 0 x102000 x102001)
def impl_EdgesOk.l0 : Nat → List (S67) → Int → Int → Int → List (S67) → Option (Bool)
 | 0, _, _, _, _, _ => none
 | k + 1, x16, x17, x18, x102000, x102001 => if x18 < x17 then (if 0 ≤ x18 then (if x18 < (x16.length : Int) then (if ((rd_T67 x16 x18).f0) < 0 then (some false) else (if ((rd_T67 x16 x18).f0) ≥ ((rd_T67 x16 x18).f1) then (some false) else (if ((rd_T67 x16 x18).f1) ≥ x102000 then (some false) else (impl_EdgesOk.l0 k x16 x17 (wrap64 (x18 + 1)) x102000 x102001)))) else (none)) else (none)) else (some true)
end
def impl_EdgesOk.f (k : Nat) (a0_0 : Int) (l0_1 : List (S67)) : Option (Bool) := (impl_within.f a0_0 1 6).bind fun t102 => (if t102 = true then (impl_EdgesOk.j0 k (decide ((l0_1.length : Int) > 12)) a0_0 l0_1) else (impl_EdgesOk.j0 k true a0_0 l0_1))
theorem impl_EdgesOk.mono_l : ∀ k, (∀ y0 y1 y2, LeO (impl_EdgesOk.j0 k y0 y1 y2) (impl_EdgesOk.j0 (k + 1) y0 y1 y2)) ∧ (∀ y0 y1 y2 y3 y4, LeO (impl_EdgesOk.l0 k y0 y1 y2 y3 y4) (impl_EdgesOk.l0 (k + 1) y0 y1 y2 y3 y4))
 | 0 => ⟨fun _ _ _ r h => by simp [impl_EdgesOk.j0] at h, fun _ _ _ _ _ r h => by simp [impl_EdgesOk.l0] at h⟩
 | k + 1 => by
  obtain ⟨ih0, ih1⟩ := impl_EdgesOk.mono_l k
  refine ⟨?_, ?_⟩
  ·intro y0 y1 y2
   unfold impl_EdgesOk.j0
   exact zm0
  ·intro y0 y1 y2 y3 y4
   unfold impl_EdgesOk.l0
   exact zm0
theorem impl_EdgesOk.mono : ∀ a0 a1 k, LeO (impl_EdgesOk.f k a0 a1) (impl_EdgesOk.f (k + 1) a0 a1) := by
 intro a0 a1 k; obtain ⟨ih0, ih1⟩ := impl_EdgesOk.mono_l k; unfold impl_EdgesOk.f; exact zm0
set_option maxHeartbeats 8000000 in
set_option maxRecDepth 100000 in
theorem impl_EdgesOk.calls (k : Nat) (a0_0 : Int) (A0_1 : Option Addr) (c0_1 : Nat) (l0_1 : List (S67)) (r : Bool) (w : World) (hr0_1 : Kd.C k67 w A0_1 l0_1.length l0_1) (hc0_1 : l0_1.length ≤ c0_1) (h : impl_EdgesOk.f k a0_0 l0_1 = some r) :
  Calls Try.prog 65 #[.agg #[.int .i64 a0_0, .slice A0_1 l0_1.length c0_1]] w fun e w' => e = .returned (.bool r) ∧ Below w.heap.size w w' := by
 have hu31 := Try.underlying31; have hu67 := Try.underlying67; have HR0_1 := Aside0.mk hr0_1; have HC0_1 := Aside0.mk hc0_1; clear hr0_1 hc0_1; have HB := Aside0.mk (Below.refl w.heap.size w); have H : ((impl_within.f a0_0 1 6).bind fun t102 => (if t102 = true then (impl_EdgesOk.j0 k (decide ((l0_1.length : Int) > 12)) a0_0 l0_1) else (impl_EdgesOk.j0 k true a0_0 l0_1))) = some r := h; clear h; have HC2 := Aside0.mk H; clear H; go_enter Try.func65, Try.ntmps65; (go_upto_region 1 with (first | ((with_reducible refine gate_dst (N := 1) rfl ?_); (try (refine gate_guard (by rfl) ?_; dsimp only)); refine box_event ?hg (N := 1) ?hd (cs := #[.int .i64 a0_0, .slice A0_1 l0_1.length c0_1]) (t := 31) ?hr ?_; (case hd => rfl); (case hg => rfl); (case hr => exact zz18); intro gb101 hg w3 hbox hb; have n_ := zA4 (below_step zz2 hb) hbox (zz23 : w.heap.size ≤ gb101) (zz23 : w.heap.size ≤ gb101); clear HB; obtain ⟨HB, BK101, GW101, GE101⟩ := n_; clear hb hbox hg))); (try simp only [Act.put, List.setIfInBounds_toArray, List.set_cons_zero, List.set_cons_succ]); go_cut [14] (fun v14 wc => ∃ (kq : Nat) (x14_1 : Bool), v14 = .bool x14_1 ∧ Aside0 (impl_EdgesOk.j0 kq x14_1 a0_0 l0_1 = some r) ∧ Aside0 (kq ≤ k) ∧ Aside0 (wc.heap[gb101]? = some (.cells #[.int .i64 a0_0, (.slice A0_1 l0_1.length c0_1)] 31 (0, 0))) ∧ Aside0 (Below w.heap.size w wc))
 case first =>
  have H := HC2.out; clear HC2; replace H := Option.bind_eq_some_iff.mp H; obtain ⟨t102, A40, H⟩ := H; (try dsimp only at H); have A4 := Aside0.mk A40; clear A40; by_cases c5 : t102 = true
  ·subst c5; rw [if_pos rfl] at H; have H' := Aside0.mk H; clear H; have hcz6_0 := zC20 BK101; have hcz6_1 := zC21 BK101; have hfz6_0 := blk_frozen BK101.out 0; have hfz6_1 := blk_frozen BK101.out 1; (go_wp2_with (first | ((with_reducible refine gate_callee (f := 45) rfl ?_); refine goesL_ (some 7) rfl rfl Try.func45 (by kernel_rfl) rfl #[.int .i64 a0_0, .int .i64 1, .int .i64 6] rfl zz3 ?_; (with_reducible refine (impl_within.calls a0_0 1 6 true _ A4.out).mono ?_); rintro e w' ⟨rfl, ⟨nd, rfl⟩⟩; refine ⟨_, rfl, ?_⟩))); (go_meet); case rel => exact ⟨_, (decide ((l0_1.length : Int) > 12)), zz7, H', ⟨by first | omega | exact Nat.le_refl _⟩, ⟨zz0⟩, ⟨zz1⟩⟩
  replace c5 := Bool.eq_false_iff.mpr c5; subst c5; rw [if_neg (show ¬ (false = true) by decide)] at H; have H' := Aside0.mk H; clear H; have hcz7_0 := zC20 BK101; have hcz7_1 := zC21 BK101; have hfz7_0 := blk_frozen BK101.out 0; have hfz7_1 := blk_frozen BK101.out 1; (go_wp2_with (first | ((with_reducible refine gate_callee (f := 45) rfl ?_); refine goesL_ (some 7) rfl rfl Try.func45 (by kernel_rfl) rfl #[.int .i64 a0_0, .int .i64 1, .int .i64 6] rfl zz3 ?_; (with_reducible refine (impl_within.calls a0_0 1 6 false _ A4.out).mono ?_); rintro e w' ⟨rfl, ⟨nd, rfl⟩⟩; refine ⟨_, rfl, ?_⟩))); (go_meet); case rel => exact ⟨_, (true), zz7, H', ⟨by first | omega | exact Nat.le_refl _⟩, ⟨zz0⟩, ⟨zz1⟩⟩
 case rest =>
  clear HC2; (try clear p2); (try clear c4); (try clear c5); (try clear c6); (try clear hcz6_0); (try clear hcz6_1); (try clear hcz7_0); (try clear hcz7_1); (try clear hfz6_0); (try clear hfz6_1); (try clear hfz7_0); (try clear hfz7_1); obtain ⟨kq, x14_1, rfl, HA, HJ1, BK101, HB⟩ := hcut
  cases kq with
  | zero => exact absurd HA.out (by simp [impl_EdgesOk.j0])
  | succ kj1 =>
   have H := HA.out; clear HA; simp only [impl_EdgesOk.j0] at H; by_cases c8 : x14_1 = true
   ·subst c8; rw [if_pos rfl] at H; obtain rfl := Option.some.inj H; go_wp2; go_ret; exact ⟨zz9, zz1⟩
   replace c8 := Bool.eq_false_iff.mpr c8; subst c8; rw [if_neg (show ¬ (false = true) by decide)] at H; have H' := Aside0.mk H; clear H; have hcz9_0 := zC20 BK101; have hcz9_1 := zC21 BK101; have hfz9_0 := blk_frozen BK101.out 0; have hfz9_1 := blk_frozen BK101.out 1; go_wp2; (go_loopg [18] kj1 (fun kq v18 w' => ∃ (x18_2 : Int), v18 = .int .i64 x18_2 ∧ Aside0 (impl_EdgesOk.l0 kq l0_1 (l0_1.length : Int) x18_2 a0_0 l0_1 = some r) ∧ Aside0 (kq ≤ kj1) ∧ Aside0 (w'.heap[gb101]? = some (.cells #[.int .i64 a0_0, (.slice A0_1 l0_1.length c0_1)] 31 (0, 0))) ∧ Aside0 (Below w.heap.size w w'))); case atStart => exact ⟨(0), zz7, H', ⟨Nat.le_refl _⟩, ⟨zz0⟩, ⟨zz1⟩⟩
   case round =>
    clear H'; (try clear p2); (try clear c4); (try clear c5); (try clear c6); (try clear c8); (try clear hcz6_0); (try clear hcz6_1); (try clear hcz7_0); (try clear hcz7_1); (try clear hcz9_0); (try clear hcz9_1); (try clear hfz6_0); (try clear hfz6_1); (try clear hfz7_0); (try clear hfz7_1); (try clear hfz9_0); (try clear hfz9_1); (try clear p2); obtain ⟨x18_2, rfl, HA, HK2, BK101, HB⟩ := hrel
    cases gk with
    | zero => exact absurd HA.out (by simp [impl_EdgesOk.l0])
    | succ k2 =>
     have H := HA.out; clear HA; simp only [impl_EdgesOk.l0] at H; by_cases c10 : x18_2 < (l0_1.length : Int); rotate_left
     ·rw [if_neg c10] at H; have c10b0 := decide_eq_false c10; clear c10; obtain rfl := Option.some.inj H; go_wp2; go_ret; exact ⟨zz9, zz1⟩
     rw [if_pos c10] at H; have c10b0 := decide_eq_true c10; clear c10; by_cases c11 : 0 ≤ x18_2; rotate_left
     ·rw [if_neg c11] at H; exact absurd H (by simp)
     rw [if_pos c11] at H; have c11b0 := decide_eq_true c11; clear c11; by_cases c12 : x18_2 < (l0_1.length : Int); rotate_left
     ·rw [if_neg c12] at H; exact absurd H (by simp)
     rw [if_pos c12] at H; have c12b0 := decide_eq_true c12; clear c12; by_cases c13 : ((rd_T67 l0_1 x18_2).f0) < 0
     ·rw [if_pos c13] at H; have c13b0 := decide_eq_true c13; clear c13; obtain rfl := Option.some.inj H; have p103 : 0 ≤ (x18_2 : Int) := of_decide_eq_true zz4; have q103 : x18_2 < (l0_1.length : Int) := of_decide_eq_true zz4; obtain ⟨ad103, e103, hx103_0, hx103_1⟩ := at_T67 HR0_1.out x18_2 p103 q103; cases e103; replace hx103_0 := (HB.out.cell (World.block_lt_of_cell? w _ hx103_0)).trans hx103_0; replace hx103_1 := (HB.out.cell (World.block_lt_of_cell? w _ hx103_1)).trans hx103_1; replace p103 := eq_true p103; replace q103 := eq_true q103; (go_wp2_with (first | ((with_reducible refine gate_dst (N := 4) rfl ?_); (try (refine gate_guard (by rfl) ?_; dsimp only)); refine box_event ?hg (N := 4) ?hd (cs := #[.int .i64 0, .int .i64 0]) (t := 67) ?hr ?_; (case hd => rfl); (case hg => rfl); (case hr => exact zz18); intro gb104 hg w14 hbox hb; have n_ := zA7 (blk_below (g := gb101) (o := .cells #[.int .i64 a0_0, .slice (some ad103) l0_1.length c0_1] 31 (0, 0)) zz0 hb) (below_step zz1 hb) hbox (zz31 : w.heap.size ≤ gb104) (zz31 : w.heap.size ≤ gb104) (zz37 : gb101 ≠ gb104) (zz38 : gb104 ≠ gb101); clear BK101 HB; obtain ⟨BK101, HB, BK104, GW104, GE104, NB101_104, NB104_101⟩ := n_; clear hb hbox hg; have hnb15 := NB104_101.out; have hnc15 := NB101_104.out; have hcz16_0 := zC20 BK104; have hcz16_1 := zC21 BK104; have hfz16_0 := blk_frozen BK104.out 0; have hfz16_1 := blk_frozen BK104.out 1))); go_ret; exact ⟨zz9, zz19⟩
     rw [if_neg c13] at H; have c13b0 := decide_eq_false c13; clear c13; by_cases c17 : ((rd_T67 l0_1 x18_2).f0) ≥ ((rd_T67 l0_1 x18_2).f1)
     ·rw [if_pos c17] at H; have c17b0 : decide (((rd_T67 l0_1 x18_2).f1) ≤ ((rd_T67 l0_1 x18_2).f0)) = true := decide_eq_true c17; clear c17; obtain rfl := Option.some.inj H; have p103 : 0 ≤ (x18_2 : Int) := of_decide_eq_true zz4; have q103 : x18_2 < (l0_1.length : Int) := of_decide_eq_true zz4; obtain ⟨ad103, e103, hx103_0, hx103_1⟩ := at_T67 HR0_1.out x18_2 p103 q103; cases e103; replace hx103_0 := (HB.out.cell (World.block_lt_of_cell? w _ hx103_0)).trans hx103_0; replace hx103_1 := (HB.out.cell (World.block_lt_of_cell? w _ hx103_1)).trans hx103_1; replace p103 := eq_true p103; replace q103 := eq_true q103; (go_wp2_with (first | ((with_reducible refine gate_dst (N := 4) rfl ?_); (try (refine gate_guard (by rfl) ?_; dsimp only)); refine box_event ?hg (N := 4) ?hd (cs := #[.int .i64 0, .int .i64 0]) (t := 67) ?hr ?_; (case hd => rfl); (case hg => rfl); (case hr => exact zz18); intro gb104 hg w18 hbox hb; have n_ := zA7 (blk_below (g := gb101) (o := .cells #[.int .i64 a0_0, .slice (some ad103) l0_1.length c0_1] 31 (0, 0)) zz0 hb) (below_step zz1 hb) hbox (zz31 : w.heap.size ≤ gb104) (zz31 : w.heap.size ≤ gb104) (zz37 : gb101 ≠ gb104) (zz38 : gb104 ≠ gb101); clear BK101 HB; obtain ⟨BK101, HB, BK104, GW104, GE104, NB101_104, NB104_101⟩ := n_; clear hb hbox hg; have hnb19 := NB104_101.out; have hnc19 := NB101_104.out; have hcz20_0 := zC20 BK104; have hcz20_1 := zC21 BK104; have hfz20_0 := blk_frozen BK104.out 0; have hfz20_1 := blk_frozen BK104.out 1))); go_ret; exact ⟨zz9, zz19⟩
     rw [if_neg c17] at H; have c17b0 : decide (((rd_T67 l0_1 x18_2).f1) ≤ ((rd_T67 l0_1 x18_2).f0)) = false := decide_eq_false c17; clear c17; by_cases c21 : ((rd_T67 l0_1 x18_2).f1) ≥ a0_0
     ·rw [if_pos c21] at H; have c21b0 : decide (a0_0 ≤ ((rd_T67 l0_1 x18_2).f1)) = true := decide_eq_true c21; clear c21; obtain rfl := Option.some.inj H; have p103 : 0 ≤ (x18_2 : Int) := of_decide_eq_true zz4; have q103 : x18_2 < (l0_1.length : Int) := of_decide_eq_true zz4; obtain ⟨ad103, e103, hx103_0, hx103_1⟩ := at_T67 HR0_1.out x18_2 p103 q103; cases e103; replace hx103_0 := (HB.out.cell (World.block_lt_of_cell? w _ hx103_0)).trans hx103_0; replace hx103_1 := (HB.out.cell (World.block_lt_of_cell? w _ hx103_1)).trans hx103_1; replace p103 := eq_true p103; replace q103 := eq_true q103; (go_wp2_with (first | ((with_reducible refine gate_dst (N := 4) rfl ?_); (try (refine gate_guard (by rfl) ?_; dsimp only)); refine box_event ?hg (N := 4) ?hd (cs := #[.int .i64 0, .int .i64 0]) (t := 67) ?hr ?_; (case hd => rfl); (case hg => rfl); (case hr => exact zz18); intro gb104 hg w22 hbox hb; have n_ := zA7 (blk_below (g := gb101) (o := .cells #[.int .i64 a0_0, .slice (some ad103) l0_1.length c0_1] 31 (0, 0)) zz0 hb) (below_step zz1 hb) hbox (zz31 : w.heap.size ≤ gb104) (zz31 : w.heap.size ≤ gb104) (zz37 : gb101 ≠ gb104) (zz38 : gb104 ≠ gb101); clear BK101 HB; obtain ⟨BK101, HB, BK104, GW104, GE104, NB101_104, NB104_101⟩ := n_; clear hb hbox hg; have hnb23 := NB104_101.out; have hnc23 := NB101_104.out; have hcz24_0 := zC20 BK104; have hcz24_1 := zC21 BK104; have hfz24_0 := blk_frozen BK104.out 0; have hfz24_1 := blk_frozen BK104.out 1; have hcz25_0 := zC20 BK101; have hcz25_1 := zC21 BK101; have hfz25_0 := blk_frozen BK101.out 0; have hfz25_1 := blk_frozen BK101.out 1))); go_ret; exact ⟨zz9, zz19⟩
     rw [if_neg c21] at H; have c21b0 : decide (a0_0 ≤ ((rd_T67 l0_1 x18_2).f1)) = false := decide_eq_false c21; clear c21; have H' := Aside0.mk H; clear H; have p103 : 0 ≤ (x18_2 : Int) := of_decide_eq_true zz4; have q103 : x18_2 < (l0_1.length : Int) := of_decide_eq_true zz4; obtain ⟨ad103, e103, hx103_0, hx103_1⟩ := at_T67 HR0_1.out x18_2 p103 q103; cases e103; replace hx103_0 := (HB.out.cell (World.block_lt_of_cell? w _ hx103_0)).trans hx103_0; replace hx103_1 := (HB.out.cell (World.block_lt_of_cell? w _ hx103_1)).trans hx103_1; replace p103 := eq_true p103; replace q103 := eq_true q103; (go_wp2_with (first | ((with_reducible refine gate_dst (N := 4) rfl ?_); (try (refine gate_guard (by rfl) ?_; dsimp only)); refine box_event ?hg (N := 4) ?hd (cs := #[.int .i64 0, .int .i64 0]) (t := 67) ?hr ?_; (case hd => rfl); (case hg => rfl); (case hr => exact zz18); intro gb104 hg w26 hbox hb; have n_ := zA7 (blk_below (g := gb101) (o := .cells #[.int .i64 a0_0, .slice (some ad103) l0_1.length c0_1] 31 (0, 0)) zz0 hb) (below_step zz1 hb) hbox (zz31 : w.heap.size ≤ gb104) (zz31 : w.heap.size ≤ gb104) (zz37 : gb101 ≠ gb104) (zz38 : gb104 ≠ gb101); clear BK101 HB; obtain ⟨BK101, HB, BK104, GW104, GE104, NB101_104, NB104_101⟩ := n_; clear hb hbox hg; have hnb27 := NB104_101.out; have hnc27 := NB101_104.out; have hcz28_0 := zC20 BK104; have hcz28_1 := zC21 BK104; have hfz28_0 := blk_frozen BK104.out 0; have hfz28_1 := blk_frozen BK104.out 1; have hcz29_0 := zC20 BK101; have hcz29_1 := zC21 BK101; have hfz29_0 := blk_frozen BK101.out 0; have hfz29_1 := blk_frozen BK101.out 1))); go_roundg k2; (case measure => have := HJ1.out; have := HK2.out; omega); case rel => exact ⟨(wrap64 (x18_2 + 1)), zz7, H', ⟨by have := HJ1.out; have := HK2.out; omega⟩, ⟨zz22⟩, ⟨zz19⟩⟩
end Go.Proofs.Ytdfibdjjoplmmaa.P
end

section
namespace Go.Proofs.Ytdfibdjjoplmmaa.Cf
set_option linter.unusedVariables false
set_option linter.unusedSimpArgs false
open Go.RowKit Go.Proofs.YtdfibdjjoplmmaaW.PrintWords
/-- With enough rounds the answer is there, and it has the property. -/
def Ep {α : Type} (g : Nat → Option α) (Q : α → Prop) : Prop := ∃ r, Q r ∧ ∃ K, ∀ k, K ≤ k → g k = some r
theorem Ep.now {α : Type} {Q : α → Prop} {r : α} (h : Q r) : Ep (fun _ => some r) Q := ⟨r, h, 0, fun _ _ => rfl⟩
theorem Ep.mono {α : Type} {g : Nat → Option α} {P Q : α → Prop} (h : Ep g P) (hpq : ∀ r, P r → Q r) : Ep g Q := by
  obtain ⟨r, hr, K, hK⟩ := h
  exact ⟨r, hpq r hr, K, hK⟩
theorem Ep.step {α : Type} {g f : Nat → Option α} {Q : α → Prop} (h : ∀ k, g (k + 1) = f k) (k : Ep f Q) : Ep g Q := by
  obtain ⟨r, hr, K, hK⟩ := k
  refine ⟨r, hr, K + 1, fun k hk => ?_⟩
  obtain ⟨m, rfl⟩ : ∃ m, k = m + 1 := ⟨k - 1, by omega⟩
  rw [h m]
  exact hK m (by omega)
theorem Ep.up {α : Type} {g : Nat → Option α} {Q : α → Prop} (h : Ep (fun k => g (k + 1)) Q) : Ep g Q := Ep.step (fun _ => rfl) h
theorem Ep.congr {α : Type} {g f : Nat → Option α} {Q : α → Prop} (h : ∀ k, g k = f k) (k : Ep f Q) : Ep g Q := by
  obtain ⟨r, hr, K, hK⟩ := k
  exact ⟨r, hr, K, fun k hk => (h k).trans (hK k hk)⟩
theorem Ep.bind {α β : Type} {g : Nat → Option α} {f : Nat → α → Option β} {P : α → Prop} {Q : β → Prop} (h : Ep g P) (k : ∀ a, P a → Ep (fun n => f n a) Q) : Ep (fun n => (g n).bind (f n)) Q := by
  obtain ⟨r, hr, K, hK⟩ := h
  obtain ⟨q, hq, L, hL⟩ := k r hr
  refine ⟨q, hq, max K L, fun k hk => ?_⟩
  show (g k).bind (f k) = some q
  rw [hK k (by omega)]
  exact hL k (by omega)
/-- A call without rounds. -/
theorem Ep.bind0 {α β : Type} {g : Option α} {f : Nat → α → Option β} {a : α} {Q : β → Prop} (h : g = some a) (k : Ep (fun n => f n a) Q) : Ep (fun n => g.bind (f n)) Q := by
  subst h
  exact k
theorem Ep.ite {α : Type} {c : Prop} [Decidable c] {f g : Nat → Option α} {Q : α → Prop} (h : c → Ep f Q) (k : ¬ c → Ep g Q) : Ep (fun n => if c then f n else g n) Q := by
  by_cases hc : c
  · simp only [hc, if_true]
    exact h hc
  · simp only [hc, if_false]
    exact k hc
theorem Ep.pos {α : Type} {c : Prop} [Decidable c] {f g : Nat → Option α} {Q : α → Prop} (hc : c) (h : Ep f Q) : Ep (fun n => if c then f n else g n) Q := Ep.ite (fun _ => h) (fun k => absurd hc k)
theorem Ep.neg {α : Type} {c : Prop} [Decidable c] {f g : Nat → Option α} {Q : α → Prop} (hc : ¬ c) (h : Ep g Q) : Ep (fun n => if c then f n else g n) Q := Ep.ite (fun k => absurd k hc) (fun _ => h)
theorem Ep.rounds {α : Type} {g : Nat → Option α} {r : α} (h : Ep g (· = r)) : ∃ k, g k = some r := by
  obtain ⟨q, rfl, K, hK⟩ := h
  exact ⟨K, hK K (Nat.le_refl _)⟩
/-- A number of a kind. -/
def Wf (k : IntKind) (x : Int) : Prop := (Lit.int k x).wf = true
theorem Wf.i64 {x : Int} (h : Wf .i64 x) : -9223372036854775808 ≤ x ∧ x ≤ 9223372036854775807 := by
  simpa [Wf, Lit.wf, IntKind.min, IntKind.max, IntKind.signed, IntKind.bits] using h
theorem Wf.u8 {x : Int} (h : Wf .u8 x) : 0 ≤ x ∧ x ≤ 255 := by
  simpa [Wf, Lit.wf, IntKind.min, IntKind.max, IntKind.signed, IntKind.bits] using h
/-- A slice: its length is a number, and so on for its elements. -/
def SL {α : Type} (Q : α → Prop) (l : List α) : Prop := l.length ≤ 9223372036854775807 ∧ ∀ x ∈ l, Q x
theorem wrap_id {x : Int} (h0 : -9223372036854775808 ≤ x) (h1 : x ≤ 9223372036854775807) : wrap64 x = x := by
  unfold wrap64
  omega
theorem rd_nat (xs : List Int) (i : Nat) : rd xs (i : Int) = xs.getD i 0 := by simp [rd]
theorem rd_get {xs : List Int} {i : Nat} (h : i < xs.length) : rd xs (i : Int) = xs[i] := by simp [rd, List.getD, h]
end Go.Proofs.Ytdfibdjjoplmmaa.Cf
end

section
namespace Go.Proofs.Ytdfibdjjoplmmaa.Cf
set_option linter.unusedVariables false
set_option linter.unusedSimpArgs false
/-- Two vertices with an edge between them. -/
def Adj (es : List E) (a b : Int) : Prop := ∃ e ∈ es, (e.f0 = a ∧ e.f1 = b) ∨ (e.f0 = b ∧ e.f1 = a)
theorem Adj.symm {es : List E} {a b : Int} (h : Adj es a b) : Adj es b a := by
  obtain ⟨e, he, h⟩ := h
  exact ⟨e, he, h.symm⟩
/-- b can be reached from a. -/
inductive Conn (es : List E) (a : Int) : Int → Prop
  | refl : Conn es a a
  | tail {b c : Int} : Conn es a b → Adj es b c → Conn es a c
theorem Conn.trans {es : List E} {a b c : Int} (h : Conn es a b) (k : Conn es b c) : Conn es a c := by
  induction k with
  | refl => exact h
  | tail _ hadj ih => exact ih.tail hadj
theorem Conn.one {es : List E} {a b : Int} (h : Adj es a b) : Conn es a b := Conn.refl.tail h
theorem Conn.symm {es : List E} {a b : Int} (h : Conn es a b) : Conn es b a := by
  induction h with
  | refl => exact .refl
  | tail _ hadj ih => exact (Conn.one hadj.symm).trans ih
theorem Conn.sub {es fs : List E} (hs : ∀ e ∈ es, e ∈ fs) {a b : Int} (h : Conn es a b) : Conn fs a b := by
  induction h with
  | refl => exact .refl
  | tail _ hadj ih =>
    obtain ⟨e, he, hx⟩ := hadj
    exact ih.tail ⟨e, hs e he, hx⟩
/-- What is closed under the edges holds what is reached. -/
theorem Conn.closed {es : List E} {S : Int → Prop} (hS : ∀ a b, S a → Adj es a b → S b) {a b : Int} (h : Conn es a b) (ha : S a) : S b := by
  induction h with
  | refl => exact ha
  | tail _ hadj ih => exact hS _ _ ih hadj
/-- An edge between two vertices below n. -/
def EOk (n : Int) (e : E) : Prop := 0 ≤ e.f0 ∧ e.f0 < e.f1 ∧ e.f1 < n
instance decEOk (n : Int) (e : E) : Decidable (EOk n e) := by unfold EOk; infer_instance
def EsOk (n : Int) (es : List E) : Prop := 1 ≤ n ∧ n ≤ 6 ∧ es.length ≤ 12 ∧ ∀ e ∈ es, EOk n e
instance decEsOk (n : Int) (es : List E) : Decidable (EsOk n es) := by unfold EsOk; infer_instance
def leE (a b : E) : Prop := a.f0 < b.f0 ∨ (a.f0 = b.f0 ∧ a.f1 ≤ b.f1)
instance decLeE (a b : E) : Decidable (leE a b) := by unfold leE; infer_instance
def Sorted (es : List E) : Prop := ∀ i, (h : i + 1 < es.length) → leE es[i] es[i + 1]
def Joined (n : Int) (es : List E) : Prop := ∀ v, 0 ≤ v → v < n → Conn es 0 v
/-- A valid graph. -/
def GOk (n : Int) (es : List E) : Prop := EsOk n es ∧ Sorted es ∧ Joined n es
instance decSorted (es : List E) : Decidable (Sorted es) := decidable_of_iff (∀ i, (h : i < es.length - 1) → leE (es[i]'(by omega)) (es[i + 1]'(by omega))) ⟨fun h i hi => h i (by omega), fun h i hi => h i (by omega)⟩
theorem EsOk.adj {n : Int} {es : List E} (h : ∀ e ∈ es, EOk n e) {a b : Int} (hab : Adj es a b) : 0 ≤ b ∧ b < n := by
  obtain ⟨e, he, hx⟩ := hab
  have := h e he
  unfold EOk at this
  omega
theorem EsOk.conn {n : Int} {es : List E} (h : ∀ e ∈ es, EOk n e) {a b : Int} (ha : 0 ≤ a ∧ a < n) (hab : Conn es a b) : 0 ≤ b ∧ b < n :=
  hab.closed (S := fun x => 0 ≤ x ∧ x < n) (fun _ _ _ hadj => EsOk.adj h hadj) ha
def stepM (m : Nat) (e : E) : Nat := if m.testBit e.f0.toNat || m.testBit e.f1.toNat then m ||| (2 ^ e.f0.toNat ||| 2 ^ e.f1.toNat) else m
def roundM (es : List E) (m : Nat) : Nat := es.foldl stepM m
def timesM (es : List E) : Nat → Nat → Nat
  | 0, m => m
  | k + 1, m => timesM es k (roundM es m)
theorem testBit_step {m : Nat} {e : E} {i : Nat} : (stepM m e).testBit i = (m.testBit i || ((m.testBit e.f0.toNat || m.testBit e.f1.toNat) && (i == e.f0.toNat || i == e.f1.toNat))) := by
  unfold stepM
  by_cases h : (m.testBit e.f0.toNat || m.testBit e.f1.toNat) = true
  · rw [if_pos h, h]
    simp only [Nat.testBit_or, Nat.testBit_two_pow, Bool.true_and]
    congr 1
    rw [Bool.eq_iff_iff]
    simp only [Bool.or_eq_true, decide_eq_true_eq, beq_iff_eq]
    omega
  · rw [if_neg h]
    simp only [Bool.not_eq_true] at h
    rw [h]
    simp
theorem step_mono {m : Nat} {e : E} {i : Nat} (h : m.testBit i = true) : (stepM m e).testBit i = true := by rw [testBit_step, h]; rfl
theorem round_mono (es : List E) : ∀ {m : Nat} {i : Nat}, m.testBit i = true → (roundM es m).testBit i = true := by
  induction es with
  | nil => intro m i h; exact h
  | cons e r ih => intro m i h; exact ih (step_mono h)
theorem times_mono (es : List E) : ∀ (k : Nat) {m : Nat} {i : Nat}, m.testBit i = true → (timesM es k m).testBit i = true
  | 0, _, _, h => h
  | k + 1, _, _, h => times_mono es k (round_mono es h)
/-- Every bit is of a vertex that can be reached. -/
def MOk (es : List E) (n : Int) (m : Nat) : Prop := ∀ i : Nat, m.testBit i = true → (i : Int) < n ∧ Conn es 0 i
theorem step_ok {es : List E} {n : Int} {m : Nat} {e : E} (he : e ∈ es) (hk : EOk n e) (h : MOk es n m) : MOk es n (stepM m e) := by
  intro i hi
  rw [testBit_step] at hi
  simp only [Bool.or_eq_true, Bool.and_eq_true, beq_iff_eq] at hi
  unfold EOk at hk
  have e0 : ((e.f0.toNat : Nat) : Int) = e.f0 := by omega
  have e1 : ((e.f1.toNat : Nat) : Int) = e.f1 := by omega
  rcases hi with hi | ⟨hm, hi⟩
  · exact h i hi
  · have key : Conn es 0 e.f0 ∧ Conn es 0 e.f1 := by
      rcases hm with hm | hm
      · have := (h _ hm).2
        rw [e0] at this
        exact ⟨this, this.tail ⟨e, he, .inl ⟨rfl, rfl⟩⟩⟩
      · have := (h _ hm).2
        rw [e1] at this
        exact ⟨this.tail ⟨e, he, .inr ⟨rfl, rfl⟩⟩, this⟩
    rcases hi with hi | hi
    · subst hi
      rw [e0]
      exact ⟨by omega, key.1⟩
    · subst hi
      rw [e1]
      exact ⟨by omega, key.2⟩
theorem round_ok {es : List E} {n : Int} (hes : ∀ e ∈ es, EOk n e) : ∀ (fs : List E), (∀ e ∈ fs, e ∈ es) → ∀ {m : Nat}, MOk es n m → MOk es n (roundM fs m) := by
  intro fs
  induction fs with
  | nil => intro _ m h; exact h
  | cons e r ih =>
    intro hs m h
    have he := hs e (List.mem_cons_self)
    exact ih (fun x hx => hs x (List.mem_cons_of_mem _ hx)) (step_ok he (hes e he) h)
theorem times_ok {es : List E} {n : Int} (hes : ∀ e ∈ es, EOk n e) : ∀ (k : Nat) {m : Nat}, MOk es n m → MOk es n (timesM es k m)
  | 0, _, h => h
  | k + 1, _, h => times_ok hes k (round_ok hes es (fun _ h => h) h)
/-- How many of the first n bits are set. -/
def cnt (n : Nat) (m : Nat) : Nat := (List.range n).countP (m.testBit ·)
theorem cnt_le (n m : Nat) : cnt n m ≤ n := by
  unfold cnt
  have := List.countP_le_length (p := fun i => m.testBit i) (l := List.range n)
  simpa using this
theorem countP_lt {α : Type} {p q : α → Bool} : ∀ {l : List α}, (∀ x ∈ l, p x = true → q x = true) → (∃ x ∈ l, p x = false ∧ q x = true) → l.countP p < l.countP q
  | [], _, h => by obtain ⟨x, hx, _⟩ := h; cases hx
  | y :: r, hpq, h => by
    have hle : r.countP p ≤ r.countP q := List.countP_mono_left (fun x hx => hpq x (List.mem_cons_of_mem _ hx))
    simp only [List.countP_cons]
    by_cases hy : p y = false ∧ q y = true
    · rw [hy.1, hy.2]
      simp
      omega
    · have hr : r.countP p < r.countP q := by
        apply countP_lt (fun x hx => hpq x (List.mem_cons_of_mem _ hx))
        obtain ⟨x, hx, h1⟩ := h
        rcases List.mem_cons.1 hx with rfl | hx
        · exact absurd h1 hy
        · exact ⟨x, hx, h1⟩
      have h2 := hpq y List.mem_cons_self
      by_cases hp : p y = true
      · rw [hp, h2 hp]
        simp
        omega
      · simp only [hp, if_false, Bool.not_eq_true] at *
        simp
        split <;> omega
theorem cnt_lt {n m m' : Nat} (h : ∀ i, m.testBit i = true → m'.testBit i = true) (hx : ∃ i, i < n ∧ m.testBit i = false ∧ m'.testBit i = true) : cnt n m < cnt n m' := by
  obtain ⟨i, hi, h1⟩ := hx
  exact countP_lt (fun x _ => h x) ⟨i, List.mem_range.2 hi, h1⟩
/-- A round that adds nothing has a closed set. -/
theorem round_fix_step {es : List E} : ∀ (fs : List E) {m : Nat}, (∀ i, (roundM fs m).testBit i = true → m.testBit i = true) → ∀ e ∈ fs, m.testBit e.f0.toNat = m.testBit e.f1.toNat := by
  intro fs
  induction fs with
  | nil => intro m _ e he; cases he
  | cons a r ih =>
    intro m h e he
    have hst : ∀ i, (stepM m a).testBit i = true → m.testBit i = true := fun i hi => h i (round_mono r hi)
    have heq : stepM m a = m := by
      apply Nat.eq_of_testBit_eq
      intro i
      rw [Bool.eq_iff_iff]
      exact ⟨hst i, step_mono⟩
    rcases List.mem_cons.1 he with rfl | he
    · have h0 := hst e.f0.toNat
      have h1 := hst e.f1.toNat
      rw [testBit_step] at h0 h1
      simp only [beq_self_eq_true, Bool.true_or, Bool.or_true, Bool.and_true, Bool.or_eq_true] at h0 h1
      rw [Bool.eq_iff_iff]
      exact ⟨fun hx => h1 (.inr (.inl hx)), fun hx => h0 (.inr (.inr hx))⟩
    · have : roundM (a :: r) m = roundM r m := by show roundM r (stepM m a) = _; rw [heq]
      exact ih (fun i hi => h i (by rw [this]; exact hi)) e he
theorem closed_of_fix {es : List E} {n : Int} (hes : ∀ e ∈ es, EOk n e) {m : Nat} (h : ∀ i, (roundM es m).testBit i = true → m.testBit i = true) (h0 : m.testBit 0 = true) (i : Nat) (hi : Conn es 0 i) : m.testBit i = true := by
  have hf := round_fix_step (es := es) es h
  have key : ∀ v : Int, Conn es 0 v → 0 ≤ v ∧ m.testBit v.toNat = true := by
    intro v hv
    refine hv.closed (S := fun v => 0 ≤ v ∧ m.testBit v.toNat = true) ?_ ⟨by omega, h0⟩
    rintro a b ⟨ha, hb⟩ ⟨e, he, hx⟩
    have hk := hes e he
    unfold EOk at hk
    rcases hx with ⟨h1, h2⟩ | ⟨h1, h2⟩
    · subst h1; subst h2
      exact ⟨by omega, by rw [← hf e he]; exact hb⟩
    · subst h1; subst h2
      exact ⟨by omega, by rw [hf e he]; exact hb⟩
  have := (key i hi).2
  simpa using this
theorem times_grow {es : List E} {n : Nat} (hes : ∀ e ∈ es, EOk n e) : ∀ (k : Nat) {m : Nat}, MOk es n m → m.testBit 0 = true →
    (∀ i : Nat, Conn es 0 i → (timesM es k m).testBit i = true) ∨ k + cnt n m ≤ cnt n (timesM es k m)
  | 0, m, _, _ => .inr (by simp [timesM])
  | k + 1, m, hm, h0 => by
    by_cases hfix : ∀ i, (roundM es m).testBit i = true → m.testBit i = true
    · left
      intro i hi
      exact times_mono es (k + 1) (closed_of_fix hes hfix h0 i hi)
    · obtain ⟨i, hi⟩ := Classical.not_forall.1 hfix
      have hi1 : (roundM es m).testBit i = true := Classical.byContradiction fun hc => hi (fun x => absurd x hc)
      have hi2 : m.testBit i = false := by
        cases hb : m.testBit i with
        | false => rfl
        | true => exact absurd (fun _ => hb) hi
      have hok := round_ok hes es (fun _ h => h) hm
      have hlt : cnt n m < cnt n (roundM es m) := cnt_lt (fun j hj => round_mono es hj) ⟨i, by have := (hok i hi1).1; omega, hi2, hi1⟩
      rcases times_grow hes k hok (round_mono es h0) with h | h
      · exact .inl h
      · right
        show k + 1 + _ ≤ cnt n (timesM es k (roundM es m))
        omega
theorem cnt_full {n m : Nat} (h : n ≤ cnt n m) : ∀ i, i < n → m.testBit i = true := by
  intro i hi
  apply Classical.byContradiction
  intro hc
  have hc' : m.testBit i = false := by simpa using hc
  have : cnt n m < cnt n (2 ^ n - 1) := by
    refine countP_lt (fun x hx _ => ?_) ⟨i, List.mem_range.2 hi, hc', ?_⟩
    · rw [Nat.testBit_two_pow_sub_one]; simpa using hx
    · rw [Nat.testBit_two_pow_sub_one]; simpa using hi
  have := cnt_le n (2 ^ n - 1)
  omega
/-- The set of bits tells whether all are joined. -/
theorem times_joined {es : List E} {n : Nat} (h1 : 1 ≤ n) (hes : ∀ e ∈ es, EOk n e) : timesM es n 1 = 2 ^ n - 1 ↔ Joined n es := by
  have hm1 : MOk es n 1 := by
    intro i hi
    have : i = 0 := by simpa [Nat.testBit_one_eq_true_iff_self_eq_zero] using hi
    subst this
    exact ⟨by omega, .refl⟩
  have h0 : (1 : Nat).testBit 0 = true := by decide
  have hok := times_ok hes n hm1
  constructor
  · intro h v hv0 hvn
    have := hok v.toNat (by rw [h, Nat.testBit_two_pow_sub_one]; simp; omega)
    have e : ((v.toNat : Nat) : Int) = v := by omega
    rw [e] at this
    exact this.2
  · intro hj
    have hall : ∀ i, i < n → (timesM es n 1).testBit i = true := by
      rcases times_grow hes n hm1 h0 with h | h
      · exact fun i hi => h i (hj i (by omega) (by omega))
      · have : n ≤ cnt n (timesM es n 1) := by omega
        exact cnt_full this
    apply Nat.eq_of_testBit_eq
    intro i
    rw [Nat.testBit_two_pow_sub_one, Bool.eq_iff_iff]
    simp only [decide_eq_true_eq]
    refine ⟨fun h => ?_, fun h => hall i h⟩
    have := (hok i h).1
    omega
/-- Whether a graph is valid. -/
def gOk (n : Int) (es : List E) : Bool := decide (EsOk n es) && (decide (Sorted es) && decide (timesM es n.toNat 1 = 2 ^ n.toNat - 1))
theorem gOk_iff {n : Int} {es : List E} : gOk n es = true ↔ GOk n es := by
  unfold gOk GOk
  simp only [Bool.and_eq_true, decide_eq_true_eq]
  constructor
  · rintro ⟨h1, h2, h3⟩
    have h := h1
    unfold EsOk at h
    obtain ⟨m, rfl⟩ := Int.eq_ofNat_of_zero_le (a := n) (by omega)
    exact ⟨h1, h2, (times_joined (n := m) (by omega) h.2.2.2).1 h3⟩
  · rintro ⟨h1, h2, h3⟩
    have h := h1
    unfold EsOk at h
    obtain ⟨m, rfl⟩ := Int.eq_ofNat_of_zero_le (a := n) (by omega)
    exact ⟨h1, h2, (times_joined (n := m) (by omega) h.2.2.2).2 h3⟩
/-- What a queue holds: vertices that can be reached, each once. -/
def QOk (es : List E) (n : Int) (q : List Int) : Prop := q.Nodup ∧ ∀ v ∈ q, (0 ≤ v ∧ v < n) ∧ Conn es 0 v
theorem nodup_len : ∀ (n : Nat) (l : List Int), l.Nodup → (∀ v ∈ l, 0 ≤ v ∧ v < n) → l.length ≤ n
  | 0, l, _, hv => by
    cases l with
    | nil => exact Nat.le_refl _
    | cons a r => have := hv a List.mem_cons_self; omega
  | n + 1, l, hl, hv => by
    by_cases hm : (n : Int) ∈ l
    · have h1 := nodup_len n (l.erase n) (hl.erase _) (fun v hx => by
        have h2 := (hl.mem_erase_iff).1 hx
        have := hv v h2.2
        have := h2.1
        omega)
      rw [List.length_erase_of_mem hm] at h1
      omega
    · have := nodup_len n l hl (fun v hx => by
        have := hv v hx
        have : v ≠ n := by rintro rfl; exact hm hx
        omega)
      omega
theorem len_nodup : ∀ (n : Nat) (l : List Int), (∀ i : Nat, i < n → (i : Int) ∈ l) → n ≤ l.length
  | 0, _, _ => Nat.zero_le _
  | n + 1, l, h => by
    have hm := h n (by omega)
    have := len_nodup n (l.erase n) (fun i hi => (List.mem_erase_of_ne (by omega)).2 (h i (by omega)))
    rw [List.length_erase_of_mem hm] at this
    have : 0 < l.length := List.length_pos_of_mem hm
    omega
/-- A queue that is closed holds what can be reached: it has n vertices just if all are joined. -/
theorem queue_joined {es : List E} {n : Nat} (h1 : 1 ≤ n) {q : List Int} (hq : QOk es n q) (h0 : (0 : Int) ∈ q) (hc : ∀ a ∈ q, ∀ b, Adj es a b → b ∈ q) : q.length = n ↔ Joined n es := by
  constructor
  · intro hl v hv0 hvn
    have : v ∈ q := by
      apply Classical.byContradiction
      intro hv
      have := nodup_len n (v :: q) (List.nodup_cons.2 ⟨hv, hq.1⟩) (fun x hx => by
        rcases List.mem_cons.1 hx with rfl | hx
        · exact ⟨hv0, hvn⟩
        · exact (hq.2 x hx).1)
      simp at this
      omega
    exact (hq.2 v this).2
  · intro hj
    have := nodup_len n q hq.1 (fun x hx => (hq.2 x hx).1)
    have := len_nodup n q (fun i hi => (hj i (by omega) (by omega)).closed (S := fun x => x ∈ q) (fun a b ha hab => hc a ha b hab) h0)
    omega
theorem QOk.push {es : List E} {n : Int} {q : List Int} (h : QOk es n q) {v : Int} (hv : v ∉ q) (h0 : 0 ≤ v ∧ v < n) (hc : Conn es 0 v) : QOk es n (q ++ [v]) := by
  refine ⟨?_, fun x hx => ?_⟩
  · rw [List.nodup_append]
    exact ⟨h.1, by simp, fun a ha b hb => by
      rw [List.mem_singleton.1 hb]
      rintro rfl
      exact hv ha⟩
  · rcases List.mem_append.1 hx with hx | hx
    · exact h.2 x hx
    · rw [List.mem_singleton.1 hx]
      exact ⟨h0, hc⟩
end Go.Proofs.Ytdfibdjjoplmmaa.Cf
end

section
namespace Go.Proofs.Ytdfibdjjoplmmaa.P
open Go.RowKit Go.Proofs.YtdfibdjjoplmmaaW.PrintWords Go.Proofs.YtdfibdjjoplmmaaW.PrintLast Go.Proofs.YtdfibdjjoplmmaaW.PrintMore
attribute [local go_sem] max2_int min2_int max_two min_two max_three min_three max_four min_four
set_option linter.unusedVariables false
set_option linter.unusedSimpArgs false
def laws_eqIntS.l0 : Nat → List Int → List Int → Int → Option (Bool)
 | 0, _, _, _ => none
 | k + 1, x0, x1, x5 => if x5 < (x0.length : Int) then (if 0 ≤ x5 then (if x5 < (x1.length : Int) then (if (rd x0 x5) = (rd x1 x5) then (laws_eqIntS.l0 k x0 x1 (wrap64 (x5 + 1))) else (some false)) else (none)) else (none)) else (some true)
def laws_eqIntS.f (k : Nat) (l0 : List Int) (l1 : List Int) : Option (Bool) := if (l0.length : Int) = (l1.length : Int) then (laws_eqIntS.l0 k l0 l1 0) else (some false)
theorem laws_eqIntS.mono_l : ∀ k, (∀ y0 y1 y2, LeO (laws_eqIntS.l0 k y0 y1 y2) (laws_eqIntS.l0 (k + 1) y0 y1 y2))
 | 0 => fun _ _ _ r h => by simp [laws_eqIntS.l0] at h
 | k + 1 => by
  have ih0 := laws_eqIntS.mono_l k
  ·intro y0 y1 y2
   unfold laws_eqIntS.l0
   exact zm1
theorem laws_eqIntS.mono : ∀ a0 a1 k, LeO (laws_eqIntS.f k a0 a1) (laws_eqIntS.f (k + 1) a0 a1) := by
 intro a0 a1 k; have ih0 := laws_eqIntS.mono_l k; unfold laws_eqIntS.f; exact zm1
def laws_markIntS.l0 : Nat → List Int → Int → Int → Option (Int × List Int)
 | 0, _, _, _ => none
 | k + 1, x0, x1, x5 => if x5 < (x0.length : Int) then (if 0 ≤ x5 then (laws_markIntS.l0 k (x0.set (x5 : Int).toNat x1) (wrap64 (x1 + 1)) (wrap64 (x5 + 1))) else (none)) else (some (x1, x0))
def laws_markIntS.f (k : Nat) (l0 : List Int) (a1 : Int) : Option (Int × List Int) := laws_markIntS.l0 k l0 a1 0
theorem laws_markIntS.mono_l : ∀ k, (∀ y0 y1 y2, LeO (laws_markIntS.l0 k y0 y1 y2) (laws_markIntS.l0 (k + 1) y0 y1 y2))
 | 0 => fun _ _ _ r h => by simp [laws_markIntS.l0] at h
 | k + 1 => by
  have ih0 := laws_markIntS.mono_l k
  ·intro y0 y1 y2
   unfold laws_markIntS.l0
   exact zm1
theorem laws_markIntS.mono : ∀ a0 a1 k, LeO (laws_markIntS.f k a0 a1) (laws_markIntS.f (k + 1) a0 a1) := by
 intro a0 a1 k; have ih0 := laws_markIntS.mono_l k; unfold laws_markIntS.f; exact zm1
def laws_heldIntS.l0 : Nat → List Int → Int → Int → Option (Int)
 | 0, _, _, _ => none
 | k + 1, x0, x1, x5 => if x5 < (x0.length : Int) then (if 0 ≤ x5 then (if (rd x0 x5) = x1 then (laws_heldIntS.l0 k x0 (wrap64 (x1 + 1)) (wrap64 (x5 + 1))) else (some (-1))) else (none)) else (some x1)
def laws_heldIntS.f (k : Nat) (l0 : List Int) (a1 : Int) : Option (Int) := laws_heldIntS.l0 k l0 a1 0
theorem laws_heldIntS.mono_l : ∀ k, (∀ y0 y1 y2, LeO (laws_heldIntS.l0 k y0 y1 y2) (laws_heldIntS.l0 (k + 1) y0 y1 y2))
 | 0 => fun _ _ _ r h => by simp [laws_heldIntS.l0] at h
 | k + 1 => by
  have ih0 := laws_heldIntS.mono_l k
  ·intro y0 y1 y2
   unfold laws_heldIntS.l0
   exact zm1
theorem laws_heldIntS.mono : ∀ a0 a1 k, LeO (laws_heldIntS.f k a0 a1) (laws_heldIntS.f (k + 1) a0 a1) := by
 intro a0 a1 k; have ih0 := laws_heldIntS.mono_l k; unfold laws_heldIntS.f; exact zm1
end Go.Proofs.Ytdfibdjjoplmmaa.P
end

section
namespace Go.Proofs.Ytdfibdjjoplmmaa.Cf
set_option linter.unusedVariables false
set_option linter.unusedSimpArgs false
open Go.RowKit Go.Proofs.YtdfibdjjoplmmaaW.PrintWords Go.Proofs.Ytdfibdjjoplmmaa.P
theorem wrap_succ {i : Nat} (h : i < 4611686018427387904) : wrap64 ((i : Int) + 1) = ((i + 1 : Nat) : Int) := by
  rw [wrap_id (by omega) (by omega)]
  omega
theorem rdE_get {es : List E} {i : Nat} (h : i < es.length) : rd_T67 es (i : Int) = es[i] := by simp [rd_T67, List.getD, h]
theorem l01In_eq (a b c : Int) : spec_l01In.f a b c = some (decide (b ≤ a ∧ a ≤ c)) := by
  unfold spec_l01In.f
  by_cases h : a ≥ b
  · rw [if_pos h]
    have : (b ≤ a ∧ a ≤ c) ↔ a ≤ c := ⟨fun x => x.2, fun x => ⟨h, x⟩⟩
    simp only [this]
  · rw [if_neg h]
    have : ¬ (b ≤ a ∧ a ≤ c) := fun x => h x.1
    simp only [this, decide_false]
theorem forall_drop {es : List E} {P : E → Prop} {i : Nat} (h : i < es.length) : (∀ e ∈ es.drop i, P e) ↔ (P es[i] ∧ ∀ e ∈ es.drop (i + 1), P e) := by
  rw [List.drop_eq_getElem_cons h]
  simp only [List.mem_cons, forall_eq_or_imp]
theorem specEdges_l0 (n : Int) (hn : 1 ≤ n ∧ n ≤ 6) (es : List E) (hl : es.length ≤ 12) : ∀ (d i : Nat), i + d = es.length → Ep (fun k => spec_EdgesOk.l0 k es (es.length : Int) (i : Int) n es) (· = decide (∀ e ∈ es.drop i, EOk n e)) := by
  intro d
  induction d with
  | zero =>
    intro i hi
    refine Ep.up ?_
    simp only [spec_EdgesOk.l0]
    refine Ep.neg (by omega) (Ep.now ?_)
    rw [List.drop_of_length_le (by omega)]
    simp
  | succ d ih =>
    intro i hi
    have hlt : i < es.length := by omega
    refine Ep.up ?_
    simp only [spec_EdgesOk.l0]
    refine Ep.pos (by omega) (Ep.pos (by omega) (Ep.pos (by omega) ?_))
    rw [rdE_get hlt, wrap_id (x := n - 1) (by omega) (by omega)]
    refine Ep.bind0 (l01In_eq _ _ _) ?_
    refine Ep.ite (fun h0 => ?_) (fun h0 => Ep.now ?_)
    · have h0' : 0 ≤ es[i].f0 ∧ es[i].f0 ≤ n - 1 := by simpa using h0
      rw [wrap_id (x := es[i].f0 + 1) (by omega) (by omega)]
      refine Ep.bind0 (l01In_eq _ _ _) ?_
      refine Ep.ite (fun h1 => ?_) (fun h1 => Ep.now ?_)
      · have h1' : es[i].f0 + 1 ≤ es[i].f1 ∧ es[i].f1 ≤ n - 1 := by simpa using h1
        rw [wrap_succ (by omega)]
        refine (ih (i + 1) (by omega)).mono ?_
        rintro _ rfl
        have : EOk n es[i] := by unfold EOk; omega
        simp only [forall_drop hlt, this, true_and]
      · have h1' : ¬ (es[i].f0 + 1 ≤ es[i].f1 ∧ es[i].f1 ≤ n - 1) := by simpa using h1
        have : ¬ EOk n es[i] := by unfold EOk; omega
        simp only [forall_drop hlt, this, false_and, decide_false]
    · have h0' : ¬ (0 ≤ es[i].f0 ∧ es[i].f0 ≤ n - 1) := by simpa using h0
      have : ¬ EOk n es[i] := by unfold EOk; omega
      simp only [forall_drop hlt, this, false_and, decide_false]
theorem specEdges (n : Int) (es : List E) : Ep (fun k => spec_EdgesOk.f k n es) (· = decide (EsOk n es)) := by
  simp only [spec_EdgesOk.f]
  refine Ep.bind0 (l01In_eq _ _ _) ?_
  refine Ep.ite (fun h0 => ?_) (fun h0 => ?_)
  · have h0' : 1 ≤ n ∧ n ≤ 6 := by simpa using h0
    refine Ep.up ?_
    simp only [spec_EdgesOk.j0]
    refine Ep.ite (fun h1 => Ep.now ?_) (fun h1 => ?_)
    · have : ¬ EsOk n es := by
        have : (es.length : Int) > 12 := by simpa using h1
        unfold EsOk
        omega
      simp [this]
    · have hl : es.length ≤ 12 := by
        have : ¬ (es.length : Int) > 12 := by simpa using h1
        omega
      refine (specEdges_l0 n h0' es hl es.length 0 (by omega)).mono ?_
      rintro _ rfl
      rw [List.drop_zero]
      unfold EsOk
      simp only [h0'.1, h0'.2, hl, true_and]
  · have h0' : ¬ (1 ≤ n ∧ n ≤ 6) := by simpa using h0
    refine Ep.up ?_
    simp only [spec_EdgesOk.j0]
    refine Ep.pos (by simp) (Ep.now ?_)
    have : ¬ EsOk n es := by
      unfold EsOk
      omega
    simp [this]
theorem specHas_l0 (x : Int) (l : List Int) (hl : l.length ≤ 1048576) : ∀ (d i : Nat), i + d = l.length → Ep (fun k => spec_l02Has.l0 k x l (l.length : Int) (i : Int)) (· = decide (x ∈ l.drop i)) := by
  intro d
  induction d with
  | zero =>
    intro i hi
    refine Ep.up ?_
    simp only [spec_l02Has.l0]
    refine Ep.neg (by omega) (Ep.now ?_)
    rw [List.drop_of_length_le (by omega)]
    simp
  | succ d ih =>
    intro i hi
    have hlt : i < l.length := by omega
    refine Ep.up ?_
    simp only [spec_l02Has.l0]
    refine Ep.pos (by omega) (Ep.pos (by omega) (Ep.pos (by omega) ?_))
    rw [rd_get hlt, wrap_succ (by omega), List.drop_eq_getElem_cons hlt]
    refine Ep.ite (fun h => Ep.now ?_) (fun h => ?_)
    · simp only [List.mem_cons, h, true_or, decide_true]
    · refine (ih (i + 1) (by omega)).mono ?_
      rintro _ rfl
      have : ¬ x = l[i] := fun e => h e.symm
      simp only [List.mem_cons, this, false_or]
theorem specHas (l : List Int) (x : Int) (hl : l.length ≤ 1048576) : Ep (fun k => spec_l02Has.f k l x) (· = decide (x ∈ l)) := by
  have := specHas_l0 x l hl l.length 0 (by omega)
  simp only [spec_l02Has.f]
  exact this
/-- The queue between two edges. -/
structure BInv (es : List E) (n : Nat) (q : List Int) (a i : Nat) (u : Int) : Prop where
  ok : QOk es n q
  zero : (0 : Int) ∈ q
  done : ∀ x ∈ q.take a, ∀ b, Adj es x b → b ∈ q
  at_ : q[a]? = some u
  part : ∀ e ∈ es.take i, (e.f0 = u → e.f1 ∈ q) ∧ (e.f1 = u → e.f0 ∈ q)
theorem BInv.lt {es : List E} {n : Nat} {q : List Int} {a i : Nat} {u : Int} (h : BInv es n q a i u) : a < q.length := by
  apply Classical.byContradiction
  intro hc
  have := h.at_
  rw [List.getElem?_eq_none (by omega)] at this
  cases this
theorem BInv.len {es : List E} {n : Nat} {q : List Int} {a i : Nat} {u : Int} (h : BInv es n q a i u) : q.length ≤ n := nodup_len n q h.ok.1 (fun v hv => (h.ok.2 v hv).1)
theorem BInv.rd {es : List E} {n : Nat} {q : List Int} {a i : Nat} {u : Int} (h : BInv es n q a i u) : rd q (a : Int) = u := by
  rw [rd_nat, List.getD_eq_getElem?_getD, h.at_]
  rfl
/-- A neighbour is put behind. -/
theorem BInv.push {es : List E} {n : Nat} {q : List Int} {a i : Nat} {u v : Int} (hes : ∀ e ∈ es, EOk n e) (h : BInv es n q a i u) (hv : v ∉ q) (hadj : Adj es u v) : BInv es n (q ++ [v]) a i u where
  ok := by
    have hu : u ∈ q := List.mem_of_getElem? h.at_
    exact h.ok.push hv (EsOk.adj hes hadj) ((h.ok.2 u hu).2.tail hadj)
  zero := List.mem_append_left _ h.zero
  done := fun x hx b hb => by
    rw [List.take_append_of_le_length (by have := h.lt; omega)] at hx
    exact List.mem_append_left _ (h.done x hx b hb)
  at_ := by rw [List.getElem?_append_left h.lt]; exact h.at_
  part := fun e he => ⟨fun x => List.mem_append_left _ ((h.part e he).1 x), fun x => List.mem_append_left _ ((h.part e he).2 x)⟩
theorem BInv.next {es : List E} {n : Nat} {q : List Int} {a i : Nat} {u : Int} (h : BInv es n q a i u) (hi : i < es.length) (h0 : es[i].f0 = u → es[i].f1 ∈ q) (h1 : es[i].f1 = u → es[i].f0 ∈ q) : BInv es n q a (i + 1) u where
  ok := h.ok
  zero := h.zero
  done := h.done
  at_ := h.at_
  part := fun e he => by
    rw [List.take_succ_eq_append_getElem hi] at he
    rcases List.mem_append.1 he with he | he
    · exact h.part e he
    · rw [List.mem_singleton.1 he]
      exact ⟨h0, h1⟩
theorem specReach_l1 (n : Nat) (hn : n ≤ 6) (es : List E) (hl : es.length ≤ 12) (hes : ∀ e ∈ es, EOk n e) (a : Nat) (u : Int) {Q : List Int → Prop}
    (hk : ∀ q, BInv es n q a es.length u → Ep (fun k => spec_l02Reach.l0 k q ((a + 1 : Nat) : Int) (n : Int) es) Q) :
    ∀ (d i : Nat) (q : List Int), i + d = es.length → BInv es n q a i u → Ep (fun k => spec_l02Reach.l1 k q (a : Int) es (es.length : Int) (i : Int) (n : Int) es) Q := by
  intro d
  induction d with
  | zero =>
    intro i q hi hb
    refine Ep.up ?_
    simp only [spec_l02Reach.l1]
    refine Ep.neg (by omega) ?_
    have := hb.lt
    have := hb.len
    rw [wrap_succ (by omega)]
    have e : i = es.length := by omega
    subst e
    exact hk q hb
  | succ d ih =>
    intro i q hi hb
    have hlt : i < es.length := by omega
    have hal := hb.lt
    have hql := hb.len
    have he := hes es[i] (List.getElem_mem hlt)
    have heok := he
    unfold EOk at he
    have hadj : Adj es es[i].f0 es[i].f1 := ⟨es[i], List.getElem_mem hlt, .inl ⟨rfl, rfl⟩⟩
    -- the second test, behind the first
    have second : ∀ q', BInv es n q' a i u → (es[i].f0 = u → es[i].f1 ∈ q') → Ep (fun k => if (0 : Int) ≤ (a : Int) then (if (a : Int) < (q'.length : Int) then (if es[i].f1 = rd q' (a : Int) then ((spec_l02Has.f k q' es[i].f0).bind fun t => (if t = true then (spec_l02Reach.l1 k q' (a : Int) es (es.length : Int) (wrap64 ((i : Int) + 1)) (n : Int) es) else (if q'.length < 17592186044416 then (spec_l02Reach.l1 k (q' ++ [es[i].f0]) (a : Int) es (es.length : Int) (wrap64 ((i : Int) + 1)) (n : Int) es) else (none)))) else (spec_l02Reach.l1 k q' (a : Int) es (es.length : Int) (wrap64 ((i : Int) + 1)) (n : Int) es)) else (none)) else (none)) Q := by
      intro q' hb' h0
      have hal' := hb'.lt
      have hql' := hb'.len
      refine Ep.pos (by omega) (Ep.pos (by omega) ?_)
      rw [hb'.rd, wrap_succ (by omega)]
      refine Ep.ite (fun h1 => ?_) (fun h1 => ih (i + 1) q' (by omega) (hb'.next hlt h0 (fun x => absurd x h1)))
      refine Ep.bind (specHas q' _ (by omega)) ?_
      rintro _ rfl
      refine Ep.ite (fun h2 => ih (i + 1) q' (by omega) (hb'.next hlt h0 (fun _ => by simpa using h2))) (fun h2 => Ep.pos (by omega) ?_)
      have h2' : es[i].f0 ∉ q' := by simpa using h2
      have hb2 := hb'.push hes h2' (by rw [← h1]; exact hadj.symm)
      exact ih (i + 1) _ (by omega) (hb2.next hlt (fun x => List.mem_append_left _ (h0 x)) (fun _ => by simp))
    refine Ep.up ?_
    simp only [spec_l02Reach.l1]
    refine Ep.pos (by omega) (Ep.pos (by omega) (Ep.pos (by omega) (Ep.pos (by omega) (Ep.pos (by omega) ?_))))
    rw [rdE_get hlt, hb.rd]
    refine Ep.ite (fun h0 => ?_) (fun h0 => ?_)
    · refine Ep.bind (specHas q _ (by omega)) ?_
      rintro _ rfl
      refine Ep.up ?_
      simp only [spec_l02Reach.j2]
      refine Ep.ite (fun h1 => Ep.pos (by omega) ?_) (fun h1 => second q hb (fun _ => by simpa using h1))
      have h1' : es[i].f1 ∉ q := by simpa using h1
      refine Ep.bind0 rfl ?_
      exact second _ (hb.push hes h1' (by rw [← h0]; exact hadj)) (fun _ => by simp)
    · refine Ep.up ?_
      simp only [spec_l02Reach.j2]
      exact Ep.neg (by simp) (second q hb (fun x => absurd x h0))
theorem specReach_l0 (n : Nat) (hn : 1 ≤ n ∧ n ≤ 6) (es : List E) (hl : es.length ≤ 12) (hes : ∀ e ∈ es, EOk n e) : ∀ (d a : Nat) (q : List Int), a + d = 7 → a ≤ q.length → QOk es n q → (0 : Int) ∈ q → (∀ x ∈ q.take a, ∀ b, Adj es x b → b ∈ q) →
    Ep (fun k => spec_l02Reach.l0 k q (a : Int) (n : Int) es) (fun r => (r.length = n ↔ Joined n es) ∧ r.length ≤ 6) := by
  intro d
  induction d with
  | zero =>
    intro a q ha hq hok _ _
    have := nodup_len n q hok.1 (fun v hv => (hok.2 v hv).1)
    omega
  | succ d ih =>
    intro a q ha hq hok h0 hdone
    have hlen := nodup_len n q hok.1 (fun v hv => (hok.2 v hv).1)
    refine Ep.up ?_
    simp only [spec_l02Reach.l0]
    refine Ep.ite (fun hlt => ?_) (fun hge => Ep.now ?_)
    · have hlt' : a < q.length := by omega
      have hb : BInv es n q a 0 q[a] := ⟨hok, h0, hdone, List.getElem?_eq_getElem hlt', fun e he => by simp at he⟩
      refine specReach_l1 n hn.2 es hl hes a q[a] ?_ es.length 0 q (by omega) hb
      intro q' hb'
      refine ih (a + 1) q' (by omega) (by have := hb'.lt; omega) hb'.ok hb'.zero ?_
      intro x hx b hadj
      have hal := hb'.lt
      rw [List.take_succ_eq_append_getElem hal] at hx
      rcases List.mem_append.1 hx with hx | hx
      · exact hb'.done x hx b hadj
      · have hx' : x = q'[a] := List.mem_singleton.1 hx
        have hu : q'[a] = q[a] := by
          have := hb'.at_
          rw [List.getElem?_eq_getElem hal] at this
          exact Option.some.inj this
        obtain ⟨e, he, h⟩ := hadj
        have hp := hb'.part e (by rw [List.take_of_length_le (Nat.le_refl _)]; exact he)
        rcases h with ⟨x0, x1⟩ | ⟨x0, x1⟩
        · rw [← x1]
          exact hp.1 (by rw [x0, hx', hu])
        · rw [← x0]
          exact hp.2 (by rw [x1, hx', hu])
    · have hfull : q.take a = q := List.take_of_length_le (by omega)
      rw [hfull] at hdone
      exact ⟨queue_joined hn.1 hok h0 hdone, by omega⟩
theorem specReach (n : Nat) (hn : 1 ≤ n ∧ n ≤ 6) (es : List E) (hl : es.length ≤ 12) (hes : ∀ e ∈ es, EOk n e) : Ep (fun k => spec_l02Reach.f k (n : Int) es) (fun r => (r.length = n ↔ Joined n es) ∧ r.length ≤ 6) := by
  simp only [spec_l02Reach.f]
  refine specReach_l0 n hn es hl hes 7 0 [0] rfl (by simp) ⟨by simp, fun v hv => ?_⟩ (by simp) (fun x hx => by simp at hx)
  rw [List.mem_singleton.1 hv]
  exact ⟨⟨Int.le_refl _, by omega⟩, .refl⟩
/-- Sorted up to an edge. -/
def SortedTo (es : List E) (i : Nat) : Prop := ∀ j, (h : j + 1 < es.length) → j + 1 < i → leE es[j] es[j + 1]
theorem specGraph_l0 (n : Nat) (es : List E) (hes : EsOk n es) : ∀ (d i : Nat), i + d = es.length → SortedTo es i → Ep (fun k => spec_GraphOk.l0 k es (es.length : Int) (i : Int) (n : Int) es) (· = gOk n es) := by
  have hes' := hes
  obtain ⟨hn1, hn6, hl, hok⟩ := hes
  intro d
  induction d with
  | zero =>
    intro i hi hs
    refine Ep.up ?_
    simp only [spec_GraphOk.l0]
    refine Ep.neg (by omega) ?_
    refine Ep.bind (specReach n (by omega) es hl hok) ?_
    rintro r ⟨hr, _⟩
    refine Ep.now ?_
    have hsorted : Sorted es := fun j h => hs j h (by omega)
    have hiff : GOk n es ↔ Joined n es := ⟨fun h => h.2.2, fun h => ⟨hes', hsorted, h⟩⟩
    by_cases hj : Joined n es
    · have : gOk n es = true := gOk_iff.2 (hiff.2 hj)
      rw [this, hr.2 hj]
      simp
    · have : gOk n es = false := by
        cases hg : gOk n es with
        | false => rfl
        | true => exact absurd (hiff.1 (gOk_iff.1 hg)) hj
      rw [this]
      have hne : r.length ≠ n := fun e => hj (hr.1 e)
      simp
      omega
  | succ d ih =>
    intro i hi hs
    have hlt : i < es.length := by omega
    have hbad : ∀ j, i = j + 1 → (hj : j < es.length) → ¬ leE es[j] es[i] → gOk n es = false := by
      intro j hij hj hx
      subst hij
      cases hg : gOk n es with
      | false => rfl
      | true => exact absurd ((gOk_iff.1 hg).2.1 j hlt) hx
    have hgood : (∀ j, i = j + 1 → (hj : j < es.length) → leE es[j] es[i]) → Ep (fun k => spec_GraphOk.l0 k es (es.length : Int) (wrap64 ((i : Int) + 1)) (n : Int) es) (· = gOk n es) := by
      intro hx
      rw [wrap_succ (by omega)]
      refine ih (i + 1) (by omega) ?_
      intro j h hji
      by_cases e : j + 1 < i
      · exact hs j h e
      · have e' : i = j + 1 := by omega
        have := hx j e' (by omega)
        subst e'
        exact this
    refine Ep.up ?_
    simp only [spec_GraphOk.l0]
    refine Ep.pos (by omega) (Ep.pos (by omega) (Ep.pos (by omega) ?_))
    refine Ep.ite (fun hpos => ?_) (fun hz => hgood (fun j hij _ => by omega))
    obtain ⟨j, rfl⟩ : ∃ j, i = j + 1 := ⟨i - 1, by omega⟩
    have hw : wrap64 (((j + 1 : Nat) : Int) - 1) = (j : Int) := by rw [wrap_id (by omega) (by omega)]; omega
    rw [hw, rdE_get hlt, rdE_get (show j < es.length by omega)]
    refine Ep.pos (by omega) (Ep.pos (by omega) ?_)
    refine Ep.ite (fun h0 => Ep.now ?_) (fun h0 => ?_)
    · exact (hbad j rfl (by omega) (by unfold leE; omega)).symm
    · refine Ep.ite (fun h1 => ?_) (fun h1 => hgood (fun j' hij _ => ?_))
      · refine Ep.ite (fun h2 => Ep.now ?_) (fun h2 => hgood (fun j' hij _ => ?_))
        · exact (hbad j rfl (by omega) (by unfold leE; omega)).symm
        · obtain rfl : j' = j := by omega
          unfold leE
          omega
      · obtain rfl : j' = j := by omega
        unfold leE
        omega
theorem specGraph (n : Int) (es : List E) : Ep (fun k => spec_GraphOk.f k n es) (· = gOk n es) := by
  simp only [spec_GraphOk.f]
  refine Ep.bind (specEdges n es) ?_
  rintro _ rfl
  refine Ep.ite (fun h => ?_) (fun h => Ep.now ?_)
  · have h' : EsOk n es := by simpa using h
    have h1 := h'.1
    obtain ⟨m, rfl⟩ := Int.eq_ofNat_of_zero_le (a := n) (by omega)
    exact specGraph_l0 m es h' es.length 0 (by omega) (fun j h hj => by omega)
  · have h' : ¬ EsOk n es := by simpa using h
    cases hg : gOk n es with
    | false => rfl
    | true => exact absurd (gOk_iff.1 hg).1 h'
end Go.Proofs.Ytdfibdjjoplmmaa.Cf
end

section
namespace Go.Proofs.Ytdfibdjjoplmmaa.Cf
set_option linter.unusedVariables false
set_option linter.unusedSimpArgs false
open Go.RowKit Go.Proofs.YtdfibdjjoplmmaaW.PrintWords Go.Proofs.YtdfibdjjoplmmaaW.PrintMore Go.Proofs.Ytdfibdjjoplmmaa.P
theorem within_eq (a b c : Int) : impl_within.f a b c = some (decide (b ≤ a ∧ a ≤ c)) := by
  unfold impl_within.f
  by_cases h : a ≥ b
  · rw [if_pos h]
    have : (b ≤ a ∧ a ≤ c) ↔ a ≤ c := ⟨fun x => x.2, fun x => ⟨h, x⟩⟩
    simp only [this]
  · rw [if_neg h]
    have : ¬ (b ≤ a ∧ a ≤ c) := fun x => h x.1
    simp only [this, decide_false]
theorem implEdges_l0 (n : Int) (es : List E) (hl : es.length ≤ 12) : ∀ (d i : Nat), i + d = es.length → Ep (fun k => impl_EdgesOk.l0 k es (es.length : Int) (i : Int) n es) (· = decide (∀ e ∈ es.drop i, EOk n e)) := by
  intro d
  induction d with
  | zero =>
    intro i hi
    refine Ep.up ?_
    simp only [impl_EdgesOk.l0]
    refine Ep.neg (by omega) (Ep.now ?_)
    rw [List.drop_of_length_le (by omega)]
    simp
  | succ d ih =>
    intro i hi
    have hlt : i < es.length := by omega
    have no : ¬ EOk n es[i] → false = decide (∀ e ∈ es.drop i, EOk n e) := fun h => by simp only [forall_drop hlt, h, false_and, decide_false]
    refine Ep.up ?_
    simp only [impl_EdgesOk.l0]
    refine Ep.pos (by omega) (Ep.pos (by omega) (Ep.pos (by omega) ?_))
    rw [rdE_get hlt]
    refine Ep.ite (fun h => Ep.now (no (by unfold EOk; omega))) (fun h0 => ?_)
    refine Ep.ite (fun h => Ep.now (no (by unfold EOk; omega))) (fun h1 => ?_)
    refine Ep.ite (fun h => Ep.now (no (by unfold EOk; omega))) (fun h2 => ?_)
    rw [wrap_succ (by omega)]
    refine (ih (i + 1) (by omega)).mono ?_
    rintro _ rfl
    have : EOk n es[i] := by unfold EOk; omega
    simp only [forall_drop hlt, this, true_and]
theorem implEdges (n : Int) (es : List E) : Ep (fun k => impl_EdgesOk.f k n es) (· = decide (EsOk n es)) := by
  simp only [impl_EdgesOk.f]
  refine Ep.bind0 (within_eq _ _ _) ?_
  refine Ep.ite (fun h0 => ?_) (fun h0 => ?_)
  · have h0' : 1 ≤ n ∧ n ≤ 6 := by simpa using h0
    refine Ep.up ?_
    simp only [impl_EdgesOk.j0]
    refine Ep.ite (fun h1 => Ep.now ?_) (fun h1 => ?_)
    · have : ¬ EsOk n es := by
        have : (es.length : Int) > 12 := by simpa using h1
        unfold EsOk
        omega
      simp [this]
    · have hl : es.length ≤ 12 := by
        have : ¬ (es.length : Int) > 12 := by simpa using h1
        omega
      refine (implEdges_l0 n es hl es.length 0 (by omega)).mono ?_
      rintro _ rfl
      rw [List.drop_zero]
      unfold EsOk
      simp only [h0'.1, h0'.2, hl, true_and]
  · have h0' : ¬ (1 ≤ n ∧ n ≤ 6) := by simpa using h0
    refine Ep.up ?_
    simp only [impl_EdgesOk.j0]
    refine Ep.pos (by simp) (Ep.now ?_)
    have : ¬ EsOk n es := by
      unfold EsOk
      omega
    simp [this]
theorem wraps_i64 (n : Int) (h0 : 0 ≤ n) (h1 : n < 2 ^ 62) : IntKind.i64.wrap n = n := by rw [IntKind.wrap_i64]; omega
theorem or_nat {a b : Nat} (ha : a < 2 ^ 62) (hb : b < 2 ^ 62) : Go.bits .or .i64 (a : Int) (b : Int) = ((a ||| b : Nat) : Int) := (bits_nat .i64 62 (by decide) wraps_i64 a b ha hb).2
theorem and_nat {a b : Nat} (ha : a < 2 ^ 62) (hb : b < 2 ^ 62) : Go.bits .and .i64 (a : Int) (b : Int) = ((a &&& b : Nat) : Int) := (bits_nat .i64 62 (by decide) wraps_i64 a b ha hb).1
theorem shl_nat {a : Nat} (ha : a < 62) : shl .i64 1 (a : Int) = ((2 ^ a : Nat) : Int) := by
  unfold shl
  have : (2 : Int) ^ a < 2 ^ 62 := by
    have := Nat.pow_lt_pow_right (a := 2) (by decide) ha
    exact_mod_cast this
  rw [Int.toNat_natCast, Nat.min_eq_left (by show a ≤ 64; omega), Int.one_mul, wraps_i64 _ (by have := Int.pow_nonneg (n := 2) (m := a) (by decide); omega) this]
  simp
theorem shr_nat {m a : Nat} (ha : a < 62) : shr .i64 (m : Int) (a : Int) = ((m / 2 ^ a : Nat) : Int) := by
  unfold shr
  rw [Int.toNat_natCast, Nat.min_eq_left (by show a ≤ 64; omega)]
  simp
/-- The test of a bit. -/
theorem bit_test {m : Nat} (hm : m < 2 ^ 62) {a : Nat} (ha : a < 62) : Go.bits .and .i64 (shr .i64 (m : Int) (a : Int)) 1 = 1 ↔ m.testBit a = true := by
  rw [shr_nat ha, show (1 : Int) = ((1 : Nat) : Int) from rfl, and_nat (Nat.lt_of_le_of_lt (Nat.div_le_self _ _) hm) (by decide)]
  rw [Nat.testBit_eq_decide_div_mod_eq, Nat.and_one_is_mod]
  generalize m / 2 ^ a = x
  simp only [decide_eq_true_eq]
  omega
theorem bit_cases {m a : Nat} : m.testBit a = true ∨ m.testBit a = false := by cases m.testBit a <;> simp
theorem step_lt {m : Nat} {e : E} {n : Int} (hm : m < 2 ^ 6) (he : EOk n e) (hn : n ≤ 6) : stepM m e < 2 ^ 6 := by
  unfold EOk at he
  unfold stepM
  split
  · apply Nat.or_lt_two_pow hm
    apply Nat.or_lt_two_pow
    · exact Nat.pow_lt_pow_right (by decide) (by omega)
    · exact Nat.pow_lt_pow_right (by decide) (by omega)
  · exact hm
theorem round_lt {n : Int} (hn : n ≤ 6) : ∀ (es : List E), (∀ e ∈ es, EOk n e) → ∀ {m : Nat}, m < 2 ^ 6 → roundM es m < 2 ^ 6 := by
  intro es
  induction es with
  | nil => intro _ m h; exact h
  | cons e r ih => intro hes m h; exact ih (fun x hx => hes x (List.mem_cons_of_mem _ hx)) (step_lt h (hes e List.mem_cons_self) hn)
open Classical in
noncomputable def joinedB (n : Int) (es : List E) : Bool := decide (Joined n es)
theorem joinedB_iff {n : Int} {es : List E} : joinedB n es = true ↔ Joined n es := by unfold joinedB; simp
theorem implConn_l1 (n : Int) (hn : n ≤ 6) (es : List E) (hl : es.length ≤ 1048576) (hes : ∀ e ∈ es, EOk n e) (x8 x9 : Int) {Q : Bool → Prop} (m0 : Nat)
    (hk : Ep (fun k => impl_connected.l0 k n es ((roundM es m0 : Nat) : Int) x8 (wrap64 (x9 + 1))) Q) :
    ∀ (d i : Nat) (m : Nat), i + d = es.length → m < 2 ^ 6 → roundM (es.drop i) m = roundM es m0 → Ep (fun k => impl_connected.l1 k n es (m : Int) x8 x9 es (es.length : Int) (i : Int)) Q := by
  intro d
  induction d with
  | zero =>
    intro i m hi hm hr
    refine Ep.up ?_
    simp only [impl_connected.l1]
    refine Ep.neg (by omega) ?_
    rw [List.drop_of_length_le (by omega)] at hr
    have e : m = roundM es m0 := hr
    rw [e]
    exact hk
  | succ d ih =>
    intro i m hi hm hr
    have hlt : i < es.length := by omega
    have hek := hes es[i] (List.getElem_mem hlt)
    have he := hek
    unfold EOk at he
    rw [List.drop_eq_getElem_cons hlt] at hr
    have hr' : roundM (es.drop (i + 1)) (stepM m es[i]) = roundM es m0 := hr
    have hst := step_lt hm hek hn
    obtain ⟨a, ha⟩ := Int.eq_ofNat_of_zero_le he.1
    obtain ⟨b, hb⟩ := Int.eq_ofNat_of_zero_le (a := es[i].f1) (by omega)
    have ha6 : a < 6 := by omega
    have hb6 : b < 6 := by omega
    have hm62 : m < 2 ^ 62 := by omega
    have pa : 2 ^ a < 2 ^ 6 := Nat.pow_lt_pow_right (by decide) ha6
    have pb : 2 ^ b < 2 ^ 6 := Nat.pow_lt_pow_right (by decide) hb6
    have pab : 2 ^ a ||| 2 ^ b < 2 ^ 6 := Nat.or_lt_two_pow pa pb
    have hset : Go.bits .or .i64 (m : Int) (Go.bits .or .i64 (shl .i64 1 (a : Int)) (shl .i64 1 (b : Int))) = ((m ||| (2 ^ a ||| 2 ^ b) : Nat) : Int) := by
      rw [shl_nat (by omega), shl_nat (by omega), or_nat (by omega) (by omega), or_nat (by omega) (by omega)]
    have hstep : (m.testBit a || m.testBit b) = true → stepM m es[i] = m ||| (2 ^ a ||| 2 ^ b) := by
      intro h
      unfold stepM
      rw [ha, hb]
      simp only [Int.ofNat_eq_natCast, Int.toNat_natCast]
      rw [if_pos h]
    have hstay : (m.testBit a || m.testBit b) = false → stepM m es[i] = m := by
      intro h
      unfold stepM
      rw [ha, hb]
      simp only [Int.ofNat_eq_natCast, Int.toNat_natCast]
      rw [if_neg (by rw [h]; simp)]
    refine Ep.up ?_
    simp only [impl_connected.l1]
    refine Ep.pos (by omega) (Ep.pos (by omega) (Ep.pos (by omega) ?_))
    rw [rdE_get hlt, ha, hb]
    refine Ep.pos (by omega) ?_
    rw [hset, wrap_succ (by omega)]
    refine Ep.ite (fun h => Ep.pos (by omega) ?_) (fun h => Ep.pos (by omega) (Ep.ite (fun h2 => ?_) (fun h2 => ?_)))
    · have := (bit_test hm62 (by omega)).1 h
      rw [← hstep (by rw [this]; rfl)]
      exact ih (i + 1) _ (by omega) hst hr'
    · have := (bit_test hm62 (by omega)).1 h2
      rw [← hstep (by rw [this]; simp)]
      exact ih (i + 1) _ (by omega) hst hr'
    · have h1 : m.testBit a = false := by
        rcases bit_cases (m := m) (a := a) with x | x
        · exact absurd ((bit_test hm62 (by omega)).2 x) h
        · exact x
      have h3 : m.testBit b = false := by
        rcases bit_cases (m := m) (a := b) with x | x
        · exact absurd ((bit_test hm62 (by omega)).2 x) h2
        · exact x
      have := hstay (by rw [h1, h3]; rfl)
      rw [this] at hr'
      exact ih (i + 1) _ (by omega) hm hr'
theorem implConn_l0 (n : Nat) (hn : 1 ≤ n ∧ n ≤ 6) (es : List E) (hl : es.length ≤ 1048576) (hes : ∀ e ∈ es, EOk n e) : ∀ (d i m : Nat), i + d = n → m < 2 ^ 6 → timesM es d m = timesM es n 1 → Ep (fun k => impl_connected.l0 k (n : Int) es (m : Int) (n : Int) (i : Int)) (· = joinedB n es) := by
  intro d
  induction d with
  | zero =>
    intro i m hi hm hr
    refine Ep.up ?_
    simp only [impl_connected.l0]
    refine Ep.neg (by omega) (Ep.pos (by omega) (Ep.now ?_))
    have hr' : m = timesM es n 1 := hr
    have hp : 1 ≤ 2 ^ n := Nat.one_le_two_pow
    have hp2 : 2 ^ n ≤ 2 ^ 6 := Nat.pow_le_pow_right (by decide) hn.2
    rw [shl_nat (by omega), wrap_id (by omega) (by omega)]
    rw [Bool.eq_iff_iff, joinedB_iff, ← times_joined hn.1 hes, ← hr']
    simp only [beq_iff_eq]
    omega
  | succ d ih =>
    intro i m hi hm hr
    refine Ep.up ?_
    simp only [impl_connected.l0]
    refine Ep.pos (by omega) ?_
    refine implConn_l1 n (by omega) es hl hes _ _ m ?_ es.length 0 m (by omega) hm (by rw [List.drop_zero])
    rw [wrap_succ (by omega)]
    exact ih (i + 1) _ (by omega) (round_lt (by omega) es hes hm) hr
theorem implConn (n : Nat) (hn : 1 ≤ n ∧ n ≤ 6) (es : List E) (hl : es.length ≤ 1048576) (hes : ∀ e ∈ es, EOk n e) : Ep (fun k => impl_connected.f k (n : Int) es) (· = joinedB n es) := by
  simp only [impl_connected.f]
  exact implConn_l0 n hn es hl hes n 0 1 (by omega) (by decide) rfl
end Go.Proofs.Ytdfibdjjoplmmaa.Cf
end

section
namespace Go.Proofs.Ytdfibdjjoplmmaa.P
open Go.RowKit Go.Proofs.YtdfibdjjoplmmaaW.PrintWords Go.Proofs.YtdfibdjjoplmmaaW.PrintLast Go.Proofs.YtdfibdjjoplmmaaW.PrintMore
attribute [local go_sem] max2_int min2_int max_two min_two max_three min_three max_four min_four
set_option linter.unusedVariables false
set_option linter.unusedSimpArgs false
def cmp_isNaN_int.f (a0 : Int) : Option (Bool) := some (a0 != a0)
set_option maxHeartbeats 8000000 in
set_option maxRecDepth 100000 in
theorem cmp_isNaN_int.calls (a0 : Int) (r : Bool) (w : World) (h : cmp_isNaN_int.f a0 = some r) :
  Calls Try.prog 88 #[.int .i64 a0] w fun e w' => e = .returned (.bool r) ∧ Drawn0 w w' := by
 have H : (some (a0 != a0)) = some r := h; clear h; obtain rfl := Option.some.inj H; go_enter Try.func88, Try.ntmps88; go_wp2; go_ret; exact ⟨zz7, by repeat (first | exact Drawn0.refl _ | apply Drawn0.step)⟩
def cmp_Compare_int.f (a0 : Int) (a1 : Int) : Option (Int) := (cmp_isNaN_int.f a0).bind fun t101 => ((cmp_isNaN_int.f a1).bind fun t102 => (if t101 = true then (if t102 = true then (some 0) else (some (-1))) else (if t102 = true then (some 1) else (if a0 < a1 then (some (-1)) else (if a0 > a1 then (some 1) else (some 0))))))
set_option maxHeartbeats 8000000 in
set_option maxRecDepth 100000 in
theorem cmp_Compare_int.calls (a0 : Int) (a1 : Int) (r : Int) (w : World) (h : cmp_Compare_int.f a0 a1 = some r) :
  Calls Try.prog 81 #[.int .i64 a0, .int .i64 a1] w fun e w' => e = .returned (.int .i64 r) ∧ Drawn0 w w' := by
 have H : ((cmp_isNaN_int.f a0).bind fun t101 => ((cmp_isNaN_int.f a1).bind fun t102 => (if t101 = true then (if t102 = true then (some 0) else (some (-1))) else (if t102 = true then (some 1) else (if a0 < a1 then (some (-1)) else (if a0 > a1 then (some 1) else (some 0))))))) = some r := h; clear h; replace H := Option.bind_eq_some_iff.mp H; obtain ⟨t101, A30, H⟩ := H; (try dsimp only at H); have A3 := Aside0.mk A30; clear A30; replace H := Option.bind_eq_some_iff.mp H; obtain ⟨t102, A40, H⟩ := H; (try dsimp only at H); have A4 := Aside0.mk A40; clear A40; by_cases c5 : t101 = true
 ·subst c5; rw [if_pos rfl] at H; by_cases c6 : t102 = true
  ·subst c6; rw [if_pos rfl] at H; obtain rfl := Option.some.inj H; go_enter Try.func81, Try.ntmps81; (go_wp2_with (first | ((with_reducible refine gate_callee (f := 88) rfl ?_); refine goesL_ (some 8) rfl rfl Try.func88 (by kernel_rfl) rfl #[.int .i64 a0] rfl zz3 ?_; (with_reducible refine (cmp_isNaN_int.calls a0 true _ A3.out).mono ?_); rintro e w' ⟨rfl, ⟨nd, rfl⟩⟩; refine ⟨_, rfl, ?_⟩) | ((with_reducible refine gate_callee (f := 88) rfl ?_); refine goesL_ (some 10) rfl rfl Try.func88 (by kernel_rfl) rfl #[.int .i64 a1] rfl zz3 ?_; (with_reducible refine (cmp_isNaN_int.calls a1 true _ A4.out).mono ?_); rintro e w' ⟨rfl, ⟨nd, rfl⟩⟩; refine ⟨_, rfl, ?_⟩))); go_ret; exact ⟨zz7, by repeat (first | exact Drawn0.refl _ | apply Drawn0.step)⟩
  replace c6 := Bool.eq_false_iff.mpr c6; subst c6; rw [if_neg (show ¬ (false = true) by decide)] at H; obtain rfl := Option.some.inj H; go_enter Try.func81, Try.ntmps81; (go_wp2_with (first | ((with_reducible refine gate_callee (f := 88) rfl ?_); refine goesL_ (some 8) rfl rfl Try.func88 (by kernel_rfl) rfl #[.int .i64 a0] rfl zz3 ?_; (with_reducible refine (cmp_isNaN_int.calls a0 true _ A3.out).mono ?_); rintro e w' ⟨rfl, ⟨nd, rfl⟩⟩; refine ⟨_, rfl, ?_⟩) | ((with_reducible refine gate_callee (f := 88) rfl ?_); refine goesL_ (some 10) rfl rfl Try.func88 (by kernel_rfl) rfl #[.int .i64 a1] rfl zz3 ?_; (with_reducible refine (cmp_isNaN_int.calls a1 false _ A4.out).mono ?_); rintro e w' ⟨rfl, ⟨nd, rfl⟩⟩; refine ⟨_, rfl, ?_⟩))); go_ret; exact ⟨zz7, by repeat (first | exact Drawn0.refl _ | apply Drawn0.step)⟩
 replace c5 := Bool.eq_false_iff.mpr c5; subst c5; rw [if_neg (show ¬ (false = true) by decide)] at H; by_cases c7 : t102 = true
 ·subst c7; rw [if_pos rfl] at H; obtain rfl := Option.some.inj H; go_enter Try.func81, Try.ntmps81; (go_wp2_with (first | ((with_reducible refine gate_callee (f := 88) rfl ?_); refine goesL_ (some 8) rfl rfl Try.func88 (by kernel_rfl) rfl #[.int .i64 a0] rfl zz3 ?_; (with_reducible refine (cmp_isNaN_int.calls a0 false _ A3.out).mono ?_); rintro e w' ⟨rfl, ⟨nd, rfl⟩⟩; refine ⟨_, rfl, ?_⟩) | ((with_reducible refine gate_callee (f := 88) rfl ?_); refine goesL_ (some 10) rfl rfl Try.func88 (by kernel_rfl) rfl #[.int .i64 a1] rfl zz3 ?_; (with_reducible refine (cmp_isNaN_int.calls a1 true _ A4.out).mono ?_); rintro e w' ⟨rfl, ⟨nd, rfl⟩⟩; refine ⟨_, rfl, ?_⟩))); go_ret; exact ⟨zz7, by repeat (first | exact Drawn0.refl _ | apply Drawn0.step)⟩
 replace c7 := Bool.eq_false_iff.mpr c7; subst c7; rw [if_neg (show ¬ (false = true) by decide)] at H; by_cases c8 : a0 < a1
 ·rw [if_pos c8] at H; have c8b0 := decide_eq_true c8; clear c8; obtain rfl := Option.some.inj H; go_enter Try.func81, Try.ntmps81; (go_wp2_with (first | ((with_reducible refine gate_callee (f := 88) rfl ?_); refine goesL_ (some 8) rfl rfl Try.func88 (by kernel_rfl) rfl #[.int .i64 a0] rfl zz3 ?_; (with_reducible refine (cmp_isNaN_int.calls a0 false _ A3.out).mono ?_); rintro e w' ⟨rfl, ⟨nd, rfl⟩⟩; refine ⟨_, rfl, ?_⟩) | ((with_reducible refine gate_callee (f := 88) rfl ?_); refine goesL_ (some 10) rfl rfl Try.func88 (by kernel_rfl) rfl #[.int .i64 a1] rfl zz3 ?_; (with_reducible refine (cmp_isNaN_int.calls a1 false _ A4.out).mono ?_); rintro e w' ⟨rfl, ⟨nd, rfl⟩⟩; refine ⟨_, rfl, ?_⟩))); go_ret; exact ⟨zz7, by repeat (first | exact Drawn0.refl _ | apply Drawn0.step)⟩
 rw [if_neg c8] at H; have c8b0 := decide_eq_false c8; clear c8; by_cases c9 : a0 > a1
 ·rw [if_pos c9] at H; have c9b0 : decide (a1 < a0) = true := decide_eq_true c9; clear c9; obtain rfl := Option.some.inj H; go_enter Try.func81, Try.ntmps81; (go_wp2_with (first | ((with_reducible refine gate_callee (f := 88) rfl ?_); refine goesL_ (some 8) rfl rfl Try.func88 (by kernel_rfl) rfl #[.int .i64 a0] rfl zz3 ?_; (with_reducible refine (cmp_isNaN_int.calls a0 false _ A3.out).mono ?_); rintro e w' ⟨rfl, ⟨nd, rfl⟩⟩; refine ⟨_, rfl, ?_⟩) | ((with_reducible refine gate_callee (f := 88) rfl ?_); refine goesL_ (some 10) rfl rfl Try.func88 (by kernel_rfl) rfl #[.int .i64 a1] rfl zz3 ?_; (with_reducible refine (cmp_isNaN_int.calls a1 false _ A4.out).mono ?_); rintro e w' ⟨rfl, ⟨nd, rfl⟩⟩; refine ⟨_, rfl, ?_⟩))); go_ret; exact ⟨zz7, by repeat (first | exact Drawn0.refl _ | apply Drawn0.step)⟩
 rw [if_neg c9] at H; have c9b0 : decide (a1 < a0) = false := decide_eq_false c9; clear c9; obtain rfl := Option.some.inj H; go_enter Try.func81, Try.ntmps81; (go_wp2_with (first | ((with_reducible refine gate_callee (f := 88) rfl ?_); refine goesL_ (some 8) rfl rfl Try.func88 (by kernel_rfl) rfl #[.int .i64 a0] rfl zz3 ?_; (with_reducible refine (cmp_isNaN_int.calls a0 false _ A3.out).mono ?_); rintro e w' ⟨rfl, ⟨nd, rfl⟩⟩; refine ⟨_, rfl, ?_⟩) | ((with_reducible refine gate_callee (f := 88) rfl ?_); refine goesL_ (some 10) rfl rfl Try.func88 (by kernel_rfl) rfl #[.int .i64 a1] rfl zz3 ?_; (with_reducible refine (cmp_isNaN_int.calls a1 false _ A4.out).mono ?_); rintro e w' ⟨rfl, ⟨nd, rfl⟩⟩; refine ⟨_, rfl, ?_⟩))); go_ret; exact ⟨zz7, by repeat (first | exact Drawn0.refl _ | apply Drawn0.step)⟩
def impl_compareEdges.f (a0_0 : Int) (a0_1 : Int) (a1_0 : Int) (a1_1 : Int) : Option (Int) := (cmp_Compare_int.f a0_0 a1_0).bind fun t103 => (if t103 = 0 then ((cmp_Compare_int.f a0_1 a1_1).bind fun t104 => (some t104)) else (some t103))
set_option maxHeartbeats 8000000 in
set_option maxRecDepth 100000 in
theorem impl_compareEdges.calls (a0_0 : Int) (a0_1 : Int) (a1_0 : Int) (a1_1 : Int) (r : Int) (w : World) (h : impl_compareEdges.f a0_0 a0_1 a1_0 a1_1 = some r) :
  Calls Try.prog 67 #[.agg #[.int .i64 a0_0, .int .i64 a0_1], .agg #[.int .i64 a1_0, .int .i64 a1_1]] w fun e w' => e = .returned (.int .i64 r) ∧ Below w.heap.size w w' := by
 have hu67 := Try.underlying67; have HB := Aside0.mk (Below.refl w.heap.size w); have H : ((cmp_Compare_int.f a0_0 a1_0).bind fun t103 => (if t103 = 0 then ((cmp_Compare_int.f a0_1 a1_1).bind fun t104 => (some t104)) else (some t103))) = some r := h; clear h; replace H := Option.bind_eq_some_iff.mp H; obtain ⟨t103, A30, H⟩ := H; (try dsimp only at H); have A3 := Aside0.mk A30; clear A30; by_cases c4 : t103 = 0; rotate_left
 ·rw [if_neg c4] at H; have c4b0 : (t103 == 0) = false := beq_eq_false_iff_ne.mpr c4; have c4b1 : (t103 != 0) = true := bne_iff_ne.mpr c4; obtain rfl := Option.some.inj H; go_enter Try.func67, Try.ntmps67; (go_wp2_with (first | ((with_reducible refine gate_dst (N := 2) rfl ?_); refine box_event ?hg (N := 2) ?hd (cs := #[.int .i64 a0_0, .int .i64 a0_1]) (t := 67) ?hr ?_; (case hd => rfl); (case hg => rfl); (case hr => exact zz18); intro gb101 hg w11 hbox hb; have n_ := zA4 (below_step zz2 hb) hbox (zz23 : w.heap.size ≤ gb101) (zz23 : w.heap.size ≤ gb101); clear HB; obtain ⟨HB, BK101, GW101, GE101⟩ := n_; clear hb hbox hg) | ((with_reducible refine gate_dst (N := 3) rfl ?_); refine box_event ?hg (N := 3) ?hd (cs := #[.int .i64 a1_0, .int .i64 a1_1]) (t := 67) ?hr ?_; (case hd => rfl); (case hg => rfl); (case hr => exact zz18); intro gb102 hg w12 hbox hb; have n_ := zA7 (blk_below (g := gb101) (o := .cells #[.int .i64 a0_0, .int .i64 a0_1] 67 (0, 0)) zz0 hb) (below_step zz1 hb) hbox (zz31 : w.heap.size ≤ gb102) (zz31 : w.heap.size ≤ gb102) (by rw [hg]; exact Nat.ne_of_lt (blk_lt (g := gb101) (o := .cells #[.int .i64 a0_0, .int .i64 a0_1] 67 (0, 0)) zz0) : gb101 ≠ gb102) (by rw [hg]; exact Nat.ne_of_gt (blk_lt (g := gb101) (o := .cells #[.int .i64 a0_0, .int .i64 a0_1] 67 (0, 0)) zz0) : gb102 ≠ gb101); clear BK101 HB; obtain ⟨BK101, HB, BK102, GW102, GE102, NB101_102, NB102_101⟩ := n_; clear hb hbox hg; have hnb13 := NB101_102.out; have hnc13 := NB102_101.out; have hcz14_0 := zC20 BK101; have hcz14_1 := zC21 BK101; have hfz14_0 := blk_frozen BK101.out 0; have hfz14_1 := blk_frozen BK101.out 1; have hcz15_0 := zC20 BK102; have hcz15_1 := zC21 BK102; have hfz15_0 := blk_frozen BK102.out 0; have hfz15_1 := blk_frozen BK102.out 1) | ((with_reducible refine gate_callee (f := 81) rfl ?_); refine goesL_ (some 10) rfl rfl Try.func81 (by kernel_rfl) rfl #[.int .i64 a0_0, .int .i64 a1_0] rfl zz3 ?_; (with_reducible refine (cmp_Compare_int.calls a0_0 a1_0 t103 _ A3.out).mono ?_); rintro e w' ⟨rfl, ⟨nd, rfl⟩⟩; refine ⟨_, rfl, ?_⟩))); go_ret; exact ⟨zz9, zz12⟩
 rw [if_pos c4] at H; have c4b0 : (t103 == 0) = true := beq_iff_eq.mpr c4; have c4b1 : (t103 != 0) = false := bne_eq_false_iff_eq.mpr c4; clear c4; replace H := Option.bind_eq_some_iff.mp H; obtain ⟨t104, A50, H⟩ := H; (try dsimp only at H); have A5 := Aside0.mk A50; clear A50; obtain rfl := Option.some.inj H; go_enter Try.func67, Try.ntmps67; (go_wp2_with (first | ((with_reducible refine gate_dst (N := 2) rfl ?_); refine box_event ?hg (N := 2) ?hd (cs := #[.int .i64 a0_0, .int .i64 a0_1]) (t := 67) ?hr ?_; (case hd => rfl); (case hg => rfl); (case hr => exact zz18); intro gb101 hg w6 hbox hb; have n_ := zA4 (below_step zz2 hb) hbox (zz23 : w.heap.size ≤ gb101) (zz23 : w.heap.size ≤ gb101); clear HB; obtain ⟨HB, BK101, GW101, GE101⟩ := n_; clear hb hbox hg) | ((with_reducible refine gate_dst (N := 3) rfl ?_); refine box_event ?hg (N := 3) ?hd (cs := #[.int .i64 a1_0, .int .i64 a1_1]) (t := 67) ?hr ?_; (case hd => rfl); (case hg => rfl); (case hr => exact zz18); intro gb102 hg w7 hbox hb; have n_ := zA7 (blk_below (g := gb101) (o := .cells #[.int .i64 a0_0, .int .i64 a0_1] 67 (0, 0)) zz0 hb) (below_step zz1 hb) hbox (zz31 : w.heap.size ≤ gb102) (zz31 : w.heap.size ≤ gb102) (by rw [hg]; exact Nat.ne_of_lt (blk_lt (g := gb101) (o := .cells #[.int .i64 a0_0, .int .i64 a0_1] 67 (0, 0)) zz0) : gb101 ≠ gb102) (by rw [hg]; exact Nat.ne_of_gt (blk_lt (g := gb101) (o := .cells #[.int .i64 a0_0, .int .i64 a0_1] 67 (0, 0)) zz0) : gb102 ≠ gb101); clear BK101 HB; obtain ⟨BK101, HB, BK102, GW102, GE102, NB101_102, NB102_101⟩ := n_; clear hb hbox hg; have hnb8 := NB101_102.out; have hnc8 := NB102_101.out; have hcz9_0 := zC20 BK101; have hcz9_1 := zC21 BK101; have hfz9_0 := blk_frozen BK101.out 0; have hfz9_1 := blk_frozen BK101.out 1; have hcz10_0 := zC20 BK102; have hcz10_1 := zC21 BK102; have hfz10_0 := blk_frozen BK102.out 0; have hfz10_1 := blk_frozen BK102.out 1) | ((with_reducible refine gate_callee (f := 81) rfl ?_); refine goesL_ (some 10) rfl rfl Try.func81 (by kernel_rfl) rfl #[.int .i64 a0_0, .int .i64 a1_0] rfl zz3 ?_; (with_reducible refine (cmp_Compare_int.calls a0_0 a1_0 t103 _ A3.out).mono ?_); rintro e w' ⟨rfl, ⟨nd, rfl⟩⟩; refine ⟨_, rfl, ?_⟩) | ((with_reducible refine gate_callee (f := 81) rfl ?_); refine goesL_ (some 18) rfl rfl Try.func81 (by kernel_rfl) rfl #[.int .i64 a0_1, .int .i64 a1_1] rfl zz3 ?_; (with_reducible refine (cmp_Compare_int.calls a0_1 a1_1 t104 _ A5.out).mono ?_); rintro e w' ⟨rfl, ⟨nd, rfl⟩⟩; refine ⟨_, rfl, ?_⟩))); go_ret; exact ⟨zz9, zz12⟩
end Go.Proofs.Ytdfibdjjoplmmaa.P
end

section
namespace Go.Proofs.Ytdfibdjjoplmmaa.Cf
set_option linter.unusedVariables false
set_option linter.unusedSimpArgs false
open Go.RowKit Go.Proofs.YtdfibdjjoplmmaaW.PrintWords Go.Proofs.YtdfibdjjoplmmaaW.PrintLast Go.Proofs.YtdfibdjjoplmmaaW.PrintMore Go.Proofs.Ytdfibdjjoplmmaa.P
def cmpI (a b : Int) : Int := if a < b then -1 else if a > b then 1 else 0
theorem cmp_eq (a b : Int) : cmp_Compare_int.f a b = some (cmpI a b) := by
  unfold cmp_Compare_int.f cmp_isNaN_int.f cmpI
  simp
  split <;> (try split) <;> rfl
def cmpE (a b : E) : Int := if cmpI a.f0 b.f0 = 0 then cmpI a.f1 b.f1 else cmpI a.f0 b.f0
theorem cmpE_eq (a b : E) : impl_compareEdges.f a.f0 a.f1 b.f0 b.f1 = some (cmpE a b) := by
  unfold impl_compareEdges.f cmpE
  rw [cmp_eq, cmp_eq]
  simp only [Option.bind_some]
  split <;> rfl
theorem cmpE_lt (a b : E) : cmpE a b < 0 ↔ ¬ leE b a := by
  unfold cmpE cmpI leE
  by_cases h : a.f0 < b.f0
  · simp [h]; try omega
  · by_cases h2 : a.f0 > b.f0
    · simp [h, h2]; try omega
    · by_cases h3 : a.f1 < b.f1
      · simp [h, h2, h3]; try omega
      · by_cases h4 : a.f1 > b.f1
        · simp [h, h2, h3, h4]; try omega
        · simp [h, h2, h3, h4]; try omega
open Classical in
noncomputable def sortedB (es : List E) : Bool := decide (Sorted es)
theorem sortedB_iff {es : List E} : sortedB es = true ↔ Sorted es := by unfold sortedB; simp
/-- Sorted from an index on. -/
def SortedFrom (es : List E) (i : Nat) : Prop := ∀ j, i ≤ j → (h : j + 1 < es.length) → leE es[j] es[j + 1]
theorem SortedFrom.all {es : List E} (h : SortedFrom es 0) : sortedB es = true := sortedB_iff.2 (fun j hj => h j (Nat.zero_le _) hj)
theorem SortedFrom.none {es : List E} {i : Nat} (h : i + 1 < es.length) (hn : ¬ leE es[i] es[i + 1]) : sortedB es = false := by
  cases hb : sortedB es with
  | false => rfl
  | true => exact absurd (sortedB_iff.1 hb i h) hn
theorem SortedFrom.down {es : List E} {i : Nat} (h : SortedFrom es (i + 1)) (hi : i + 1 < es.length) (hl : leE es[i] es[i + 1]) : SortedFrom es i := by
  intro j hj hjl
  by_cases e : j = i
  · subst e; exact hl
  · exact h j (by omega) hjl
set_option maxHeartbeats 2000000 in
set_option maxRecDepth 100000 in
theorem isf_calls (es : List E) (A : Option Addr) (c : Nat) (w : World) (hr : Kd.C k67 w A es.length es) (hc : es.length ≤ c) :
    Calls Try.prog 66 #[.slice A es.length c, .func (.func 67) #[] #[]] w fun e w' => e = .returned (.bool (sortedB es)) ∧ Below w.heap.size w w' := by
  have hlen := hr.2.1
  have HR := Aside0.mk hr
  have HL := Aside0.mk hlen
  clear hr hlen
  have HB := Aside0.mk (Below.refl w.heap.size w)
  go_enter Try.func66, Try.ntmps66
  go_wp2
  go_loopw [5] (fun v wr => ∃ i : Int, v = .int .i64 i ∧ Aside0 (-1 ≤ i ∧ i < es.length ∧ SortedFrom es i.toNat) ∧ Aside0 (Below w.heap.size w wr)) (fun v _ => (intOf v + 1).toNat)
  case atStart => exact ⟨(es.length : Int) - 1, by rw [wrap_id (by have := HL.out; omega) (by have := HL.out; omega)], ⟨by omega, by omega, fun j hj hjl => by omega⟩, HB⟩
  case round =>
    obtain ⟨i, rfl, HI, HB⟩ := hrel
    by_cases h0 : 0 < i
    · obtain ⟨j, hij⟩ : ∃ j : Nat, i = (j : Int) + 1 := ⟨(i - 1).toNat, by omega⟩
      have hj := HI.out.2.1
      have hl := HL.out
      have hw : wrap64 (i - 1) = (j : Int) := by rw [wrap_id (by omega) (by omega)]; omega
      have p1 : 0 ≤ i := by omega
      have p2 : 0 ≤ wrap64 (i - 1) := by omega
      have q2 : wrap64 (i - 1) < (es.length : Int) := by omega
      obtain ⟨ad, e, hx0, hx1⟩ := at_T67 HR.out i p1 hj
      cases e
      obtain ⟨ad', e, hy0, hy1⟩ := at_T67 HR.out (wrap64 (i - 1)) p2 q2
      cases e
      replace hx0 := (HB.out.cell (World.block_lt_of_cell? w _ hx0)).trans hx0
      replace hx1 := (HB.out.cell (World.block_lt_of_cell? w _ hx1)).trans hx1
      replace hy0 := (HB.out.cell (World.block_lt_of_cell? w _ hy0)).trans hy0
      replace hy1 := (HB.out.cell (World.block_lt_of_cell? w _ hy1)).trans hy1
      have c0 : decide (0 < i) = true := decide_eq_true h0
      replace p1 := eq_true p1
      have q1 := eq_true hj
      replace p2 := eq_true p2
      replace q2 := eq_true q2
      have HW := Aside0.mk hw
      have HIJ := Aside0.mk hij
      clear hj hl hw hij h0
      go_wp2
      go_still_tail 10, (by kernel_rfl)
      simp only [i64_w]
      repeat still_step
      refine wpStill_nil ?_
      change wpList _ _ _ _ _ wr.drew
      have HB' := Aside0.mk (below_drew1 HB.out)
      clear HB hx0 hx1 hy0 hy1
      generalize wr.drew = w2 at HB' ⊢
      have HX := Aside0.mk (cmpE_eq (rd_T67 es i) (rd_T67 es (wrap64 (i - 1))))
      have HC := Aside0.mk (cmpE_lt (rd_T67 es i) (rd_T67 es (wrap64 (i - 1))))
      generalize cmpE (rd_T67 es i) (rd_T67 es (wrap64 (i - 1))) = z at HX HC
      have HE : Aside0 (∃ hj : j + 1 < es.length, rd_T67 es i = es[j + 1] ∧ rd_T67 es (wrap64 (i - 1)) = es[j]) := by
        have hj : j + 1 < es.length := by
          have := HI.out.2.1
          have := HIJ.out
          omega
        have e1 : i = ((j + 1 : Nat) : Int) := by have := HIJ.out; omega
        refine ⟨hj, ?_, ?_⟩
        · rw [e1, rdE_get hj]
        · rw [HW.out, rdE_get (by omega)]
      by_cases hz : z < 0
      · have cz : decide (z < 0) = true := decide_eq_true hz
        have HZ := Aside0.mk hz
        clear hz
        go_wp2_with fail
        refine (impl_compareEdges.calls _ _ _ _ z _ HX.out).mono ?_
        rintro e w3 ⟨rfl, hb⟩
        go_wp2
        go_ret
        obtain ⟨hj, e1, e2⟩ := HE.out
        have hs := SortedFrom.none hj (by rw [← e1, ← e2]; exact HC.out.1 HZ.out)
        exact ⟨by rw [hs]; rfl, below_step HB'.out hb⟩
      · have cz : decide (z < 0) = false := decide_eq_false hz
        have HZ := Aside0.mk hz
        clear hz
        go_wp2_with fail
        refine (impl_compareEdges.calls _ _ _ _ z _ HX.out).mono ?_
        rintro e w3 ⟨rfl, hb⟩
        have HB2 := Aside0.mk (below_step HB'.out hb)
        clear hb
        go_wp2
        go_roundw
        case rel =>
          have hi := HI.out
          have hw := HW.out
          have hij := HIJ.out
          refine ⟨wrap64 (i - 1), rfl, ⟨by omega, by omega, ?_⟩, HB2⟩
          obtain ⟨hj, e1, e2⟩ := HE.out
          have hle : leE es[j] es[j + 1] := by
            rw [← e1, ← e2]
            apply Classical.byContradiction
            intro hn
            have h1 := HC.out.2 hn
            have h2 := HZ.out
            omega
          rw [hw, Int.toNat_natCast]
          refine SortedFrom.down ?_ hj hle
          have := hi.2.2
          rw [hij, show ((j : Int) + 1).toNat = j + 1 by omega] at this
          exact this
        case measure =>
          have hi := HI.out
          have hw := HW.out
          have hij := HIJ.out
          simp [intOf]
          omega
    · have c0 : decide (0 < i) = false := decide_eq_false h0
      have HZ := Aside0.mk h0
      clear h0
      go_wp2
      go_ret
      have := HI.out
      have h0 := HZ.out
      have hs : SortedFrom es i.toNat := this.2.2
      rw [show i.toNat = 0 by omega] at hs
      have ha := hs.all
      exact ⟨by rw [ha]; rfl, HB.out⟩
end Go.Proofs.Ytdfibdjjoplmmaa.Cf
end

section
namespace Go.Proofs.Ytdfibdjjoplmmaa.P
open Go.RowKit Go.Proofs.YtdfibdjjoplmmaaW.PrintWords Go.Proofs.YtdfibdjjoplmmaaW.PrintLast Go.Proofs.YtdfibdjjoplmmaaW.PrintMore
attribute [local go_sem] max2_int min2_int max_two min_two max_three min_three max_four min_four
set_option linter.unusedVariables false
set_option linter.unusedSimpArgs false
def impl_GraphOk.f (a0_0 : Int) (l0_1 : List (S67)) : Option Bool := some (Cf.gOk a0_0 l0_1)
set_option maxHeartbeats 2000000 in
set_option maxRecDepth 100000 in
theorem impl_GraphOk.calls (a0_0 : Int) (A0_1 : Option Addr) (c0_1 : Nat) (l0_1 : List (S67)) (r : Bool) (w : World) (hr0_1 : Kd.C k67 w A0_1 l0_1.length l0_1) (hc0_1 : l0_1.length ≤ c0_1) (h : impl_GraphOk.f a0_0 l0_1 = some r) :
  Calls Try.prog 32 #[.agg #[.int .i64 a0_0, .slice A0_1 l0_1.length c0_1]] w fun e w' => e = .returned (.bool r) ∧ Below w.heap.size w w' := by
 obtain rfl := Option.some.inj h; clear h; obtain ⟨k1, hk1⟩ := (Cf.implEdges a0_0 l0_1).rounds; have HR := Aside0.mk hr0_1; have HK1 := Aside0.mk hk1; clear hr0_1 hk1; go_enter Try.func32, Try.ntmps32; have HB := Aside0.mk (below_alloc (Below.refl w.heap.size w) (.cells #[.int .i64 a0_0, .slice A0_1 l0_1.length c0_1] 31)); have BK := Aside0.mk (heap_alloc_new w (.cells #[.int .i64 a0_0, .slice A0_1 l0_1.length c0_1] 31)); by_cases he : Cf.EsOk a0_0 l0_1; rotate_left
 ·have HE := Aside0.mk he; replace HK1 := Aside0.mk (HK1.out.trans (congrArg some (decide_eq_false he))); clear he; (go_wp2_with fail); refine (impl_EdgesOk.calls k1 _ _ _ l0_1 false _ (Kd.C_below HR.out HB.out) hc0_1 HK1.out).mono ?_; rintro e w1 ⟨rfl, hb⟩; have HB1 := Aside0.mk (below_step HB.out hb); clear hb; go_wp2; go_ret
  have hg : Cf.gOk a0_0 l0_1 = false := by
   cases hb : Cf.gOk a0_0 l0_1 with
   | false => rfl
   | true => exact absurd (Cf.gOk_iff.1 hb).1 HE.out
  exact ⟨by rw [hg]; rfl, HB1.out⟩
 have HE := Aside0.mk he; replace HK1 := Aside0.mk (HK1.out.trans (congrArg some (decide_eq_true he))); clear he; (go_wp2_with fail); refine (impl_EdgesOk.calls k1 _ _ _ l0_1 true _ (Kd.C_below HR.out HB.out) hc0_1 HK1.out).mono ?_; rintro e w1 ⟨rfl, hb⟩; have HB1 := Aside0.mk (below_step HB.out hb); have BK1 := Aside0.mk (blk_below BK.out hb); clear hb; have hz0 : w1.cell? ⟨w.heap.size, 0, none⟩ = some (.int .i64 a0_0) := (blk_cell BK1.out 0).trans rfl; have hz1 : w1.cell? ⟨w.heap.size, 1, none⟩ = some (.slice A0_1 l0_1.length c0_1) := (blk_cell BK1.out 1).trans rfl; (go_wp2_with fail); have HS := Aside0.mk (Cf.isf_calls l0_1 A0_1 c0_1 w1 (Kd.C_below HR.out HB1.out) hc0_1); by_cases hs : Cf.Sorted l0_1; rotate_left
 ·have hsb : Cf.sortedB l0_1 = false := by
   cases hb : Cf.sortedB l0_1 with
   | false => rfl
   | true => exact absurd (Cf.sortedB_iff.1 hb) hs
  rw [hsb] at HS; have HSo := Aside0.mk hs; clear hs hsb; refine HS.out.mono ?_; rintro e w2 ⟨rfl, hb⟩; have HB2 := Aside0.mk (below_step HB1.out hb); clear hb hz0 hz1; go_wp2; go_ret
  have hg : Cf.gOk a0_0 l0_1 = false := by
   cases hb : Cf.gOk a0_0 l0_1 with
   | false => rfl
   | true => exact absurd (Cf.gOk_iff.1 hb).2.1 HSo.out
  exact ⟨by rw [hg]; rfl, HB2.out⟩
 have HSo := Aside0.mk hs; rw [Cf.sortedB_iff.2 hs] at HS; clear hs; refine HS.out.mono ?_; rintro e w2 ⟨rfl, hb⟩; have HB2 := Aside0.mk (below_step HB1.out hb); have BK2 := Aside0.mk (blk_below BK1.out hb); clear hb hz0 hz1; have hz0 : w2.cell? ⟨w.heap.size, 0, none⟩ = some (.int .i64 a0_0) := (blk_cell BK2.out 0).trans rfl; have hz1 : w2.cell? ⟨w.heap.size, 1, none⟩ = some (.slice A0_1 l0_1.length c0_1) := (blk_cell BK2.out 1).trans rfl; (go_wp2_with fail); obtain ⟨h1, h6, hl, hes⟩ := HE.out; obtain ⟨n, rfl⟩ := Int.eq_ofNat_of_zero_le (a := a0_0) (by omega); obtain ⟨k2, hk2⟩ := (Cf.implConn n ⟨by omega, by omega⟩ l0_1 (by omega) hes).rounds; refine (impl_connected.calls k2 _ _ _ l0_1 (Cf.joinedB n l0_1) _ (Kd.C_below HR.out HB2.out) hc0_1 hk2).mono ?_; rintro e w3 ⟨rfl, hd⟩; have HB3 := Aside0.mk (below_step HB2.out hd); clear hd hk2 h1 h6 hl hes
 have hg : Cf.gOk n l0_1 = Cf.joinedB n l0_1 := by
  rw [Bool.eq_iff_iff, Cf.gOk_iff, Cf.joinedB_iff]; exact ⟨fun h => h.2.2, fun h => ⟨HE.out, HSo.out, h⟩⟩
 have HG := Aside0.mk hg; clear hg; generalize Cf.joinedB n l0_1 = z at HG ⊢; cases z
 ·go_wp2; go_ret; exact ⟨by rw [HG.out]; rfl, HB3.out⟩
 ·go_wp2; go_ret; exact ⟨by rw [HG.out]; rfl, HB3.out⟩
end Go.Proofs.Ytdfibdjjoplmmaa.P
end

