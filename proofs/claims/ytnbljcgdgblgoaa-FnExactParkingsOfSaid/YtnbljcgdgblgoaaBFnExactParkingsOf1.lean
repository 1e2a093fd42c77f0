/- A part of the proof of FnExactParkingsOf. -/
import Derived.Test.YtnbljcgdgblgoaaBFnExactParkingsOf0
import Derived.StillTailTactics
import Derived.Deep.RegionLaw
import Derived.Deep.LoopGhost
import Derived.Lib.Walk
import Derived.Lib.SliceRun
import Derived.Test.YtnbljcgdgblgoaaBFnExactParkingsOfWApart
import Derived.Test.YtnbljcgdgblgoaaBFnExactParkingsOfWMore
import Derived.Test.YtnbljcgdgblgoaaBFnExactParkingsOfWWords
section
namespace Go.Proofs.Ytnbljcgdgblgoaa.P
open Go.RowKit Go.Proofs.YtnbljcgdgblgoaaW.PrintWords Go.Proofs.YtnbljcgdgblgoaaW.PrintLast Go.Proofs.YtnbljcgdgblgoaaW.PrintMore
attribute [local go_sem] max2_int min2_int max_two min_two max_three min_three max_four min_four
set_option linter.unusedVariables false
set_option linter.unusedSimpArgs false
def impl_compareEdges.f (a0_0 : Int) (a0_1 : Int) (a1_0 : Int) (a1_1 : Int) : Option (Int) := (cmp_Compare_int.f a0_0 a1_0).bind fun t103 => (if t103 = 0 then ((cmp_Compare_int.f a0_1 a1_1).bind fun t104 => (some t104)) else (some t103))
set_option maxHeartbeats 8000000 in
set_option maxRecDepth 100000 in
theorem impl_compareEdges.calls (a0_0 : Int) (a0_1 : Int) (a1_0 : Int) (a1_1 : Int) (r : Int) (w : World) (h : impl_compareEdges.f a0_0 a0_1 a1_0 a1_1 = some r) :
  Calls Try.prog 92 #[.agg #[.int .i64 a0_0, .int .i64 a0_1], .agg #[.int .i64 a1_0, .int .i64 a1_1]] w fun e w' => e = .returned (.int .i64 r) ∧ Below w.heap.size w w' := by
 have hu57 := Try.underlying57; have HB := Aside0.mk (Below.refl w.heap.size w); have H : ((cmp_Compare_int.f a0_0 a1_0).bind fun t103 => (if t103 = 0 then ((cmp_Compare_int.f a0_1 a1_1).bind fun t104 => (some t104)) else (some t103))) = some r := h; clear h; replace H := Option.bind_eq_some_iff.mp H; obtain ⟨t103, A30, H⟩ := H; (try dsimp only at H); have A3 := Aside0.mk A30; clear A30; by_cases c4 : t103 = 0; rotate_left
 ·rw [if_neg c4] at H; have c4b0 : (t103 == 0) = false := beq_eq_false_iff_ne.mpr c4; have c4b1 : (t103 != 0) = true := bne_iff_ne.mpr c4; obtain rfl := Option.some.inj H; go_enter Try.func92, Try.ntmps92; (go_wp2_with (first | ((with_reducible refine gate_dst (N := 2) rfl ?_); refine box_event ?hg (N := 2) ?hd (cs := #[.int .i64 a0_0, .int .i64 a0_1]) (t := 57) ?hr ?_; (case hd => rfl); (case hg => rfl); (case hr => exact zz9); intro gb101 hg w11 hbox hb; have n_ := zA4 (below_step zz1 hb) hbox (zz10 : w.heap.size ≤ gb101) (zz10 : w.heap.size ≤ gb101); clear HB; obtain ⟨HB, BK101, GW101, GE101⟩ := n_; clear hb hbox hg) | ((with_reducible refine gate_dst (N := 3) rfl ?_); refine box_event ?hg (N := 3) ?hd (cs := #[.int .i64 a1_0, .int .i64 a1_1]) (t := 57) ?hr ?_; (case hd => rfl); (case hg => rfl); (case hr => exact zz9); intro gb102 hg w12 hbox hb; have n_ := zA7 (blk_below (g := gb101) (o := .cells #[.int .i64 a0_0, .int .i64 a0_1] 57 (0, 0)) zz2 hb) (below_step zz0 hb) hbox (zz13 : w.heap.size ≤ gb102) (zz13 : w.heap.size ≤ gb102) (zz48 : gb101 ≠ gb102) (zz49 : gb102 ≠ gb101); clear BK101 HB; obtain ⟨BK101, HB, BK102, GW102, GE102, NB101_102, NB102_101⟩ := n_; clear hb hbox hg; have hnb13 := NB101_102.out; have hnc13 := NB102_101.out; have hcz14_0 := zC20 BK101; have hcz14_1 := zC21 BK101; have hfz14_0 := blk_frozen BK101.out 0; have hfz14_1 := blk_frozen BK101.out 1; have hcz15_0 := zC20 BK102; have hcz15_1 := zC21 BK102; have hfz15_0 := blk_frozen BK102.out 0; have hfz15_1 := blk_frozen BK102.out 1) | ((with_reducible refine gate_callee (f := 100) rfl ?_); refine goesL_ (some 10) rfl rfl Try.func100 (by kernel_rfl) rfl #[.int .i64 a0_0, .int .i64 a1_0] rfl zz4 ?_; (with_reducible refine (cmp_Compare_int.calls a0_0 a1_0 t103 _ A3.out).mono ?_); rintro e w' ⟨rfl, ⟨nd, rfl⟩⟩; refine ⟨_, rfl, ?_⟩))); go_ret; exact ⟨zz7, zz14⟩
 rw [if_pos c4] at H; have c4b0 : (t103 == 0) = true := beq_iff_eq.mpr c4; have c4b1 : (t103 != 0) = false := bne_eq_false_iff_eq.mpr c4; clear c4; replace H := Option.bind_eq_some_iff.mp H; obtain ⟨t104, A50, H⟩ := H; (try dsimp only at H); have A5 := Aside0.mk A50; clear A50; obtain rfl := Option.some.inj H; go_enter Try.func92, Try.ntmps92; (go_wp2_with (first | ((with_reducible refine gate_dst (N := 2) rfl ?_); refine box_event ?hg (N := 2) ?hd (cs := #[.int .i64 a0_0, .int .i64 a0_1]) (t := 57) ?hr ?_; (case hd => rfl); (case hg => rfl); (case hr => exact zz9); intro gb101 hg w6 hbox hb; have n_ := zA4 (below_step zz1 hb) hbox (zz10 : w.heap.size ≤ gb101) (zz10 : w.heap.size ≤ gb101); clear HB; obtain ⟨HB, BK101, GW101, GE101⟩ := n_; clear hb hbox hg) | ((with_reducible refine gate_dst (N := 3) rfl ?_); refine box_event ?hg (N := 3) ?hd (cs := #[.int .i64 a1_0, .int .i64 a1_1]) (t := 57) ?hr ?_; (case hd => rfl); (case hg => rfl); (case hr => exact zz9); intro gb102 hg w7 hbox hb; have n_ := zA7 (blk_below (g := gb101) (o := .cells #[.int .i64 a0_0, .int .i64 a0_1] 57 (0, 0)) zz2 hb) (below_step zz0 hb) hbox (zz13 : w.heap.size ≤ gb102) (zz13 : w.heap.size ≤ gb102) (zz48 : gb101 ≠ gb102) (zz49 : gb102 ≠ gb101); clear BK101 HB; obtain ⟨BK101, HB, BK102, GW102, GE102, NB101_102, NB102_101⟩ := n_; clear hb hbox hg; have hnb8 := NB101_102.out; have hnc8 := NB102_101.out; have hcz9_0 := zC20 BK101; have hcz9_1 := zC21 BK101; have hfz9_0 := blk_frozen BK101.out 0; have hfz9_1 := blk_frozen BK101.out 1; have hcz10_0 := zC20 BK102; have hcz10_1 := zC21 BK102; have hfz10_0 := blk_frozen BK102.out 0; have hfz10_1 := blk_frozen BK102.out 1) | ((with_reducible refine gate_callee (f := 100) rfl ?_); refine goesL_ (some 10) rfl rfl Try.func100 (by kernel_rfl) rfl #[.int .i64 a0_0, .int .i64 a1_0] rfl zz4 ?_; (with_reducible refine (cmp_Compare_int.calls a0_0 a1_0 t103 _ A3.out).mono ?_); rintro e w' ⟨rfl, ⟨nd, rfl⟩⟩; refine ⟨_, rfl, ?_⟩) | ((with_reducible refine gate_callee (f := 100) rfl ?_); refine goesL_ (some 18) rfl rfl Try.func100 (by kernel_rfl) rfl #[.int .i64 a0_1, .int .i64 a1_1] rfl zz4 ?_; (with_reducible refine (cmp_Compare_int.calls a0_1 a1_1 t104 _ A5.out).mono ?_); rintro e w' ⟨rfl, ⟨nd, rfl⟩⟩; refine ⟨_, rfl, ?_⟩))); go_ret; exact ⟨zz7, zz14⟩
end Go.Proofs.Ytnbljcgdgblgoaa.P
end

section
namespace Go.Proofs.Ytnbljcgdgblgoaa.Cf
set_option linter.unusedVariables false
set_option linter.unusedSimpArgs false
open Go.RowKit Go.Proofs.YtnbljcgdgblgoaaW.PrintWords Go.Proofs.YtnbljcgdgblgoaaW.PrintLast Go.Proofs.YtnbljcgdgblgoaaW.PrintMore Go.Proofs.Ytnbljcgdgblgoaa.P
def cmpI (a b : Int) : Int := if a < b then -1 else if a > b then 1 else 0
theorem cmp_eq (a b : Int) : cmp_Compare_int.f a b = some (cmpI a b) := by
  unfold cmp_Compare_int.f cmp_isNaN_int.f cmpI
  simp
  split <;> (try split) <;> rfl
def cmpE (a b : E) : Int := if cmpI a.f0 b.f0 = 0 then cmpI a.f1 b.f1 else cmpI a.f0 b.f0
theorem cmpE_eq (a b : E) : impl_compareEdges.f a.f0 a.f1 b.f0 b.f1 = some (cmpE a b) := by
  unfold impl_compareEdges.f cmpE
  rw [cmp_eq, cmp_eq]
  simp only [Option.bind_some]
  split <;> rfl
theorem cmpE_lt (a b : E) : cmpE a b < 0 ↔ ¬ leE b a := by
  unfold cmpE cmpI leE
  by_cases h : a.f0 < b.f0
  · simp [h]; try omega
  · by_cases h2 : a.f0 > b.f0
    · simp [h, h2]; try omega
    · by_cases h3 : a.f1 < b.f1
      · simp [h, h2, h3]; try omega
      · by_cases h4 : a.f1 > b.f1
        · simp [h, h2, h3, h4]; try omega
        · simp [h, h2, h3, h4]; try omega
open Classical in
noncomputable def sortedB (es : List E) : Bool := decide (Sorted es)
theorem sortedB_iff {es : List E} : sortedB es = true ↔ Sorted es := by unfold sortedB; simp
/-- Sorted from an index on. -/
def SortedFrom (es : List E) (i : Nat) : Prop := ∀ j, i ≤ j → (h : j + 1 < es.length) → leE es[j] es[j + 1]
theorem SortedFrom.all {es : List E} (h : SortedFrom es 0) : sortedB es = true := sortedB_iff.2 (fun j hj => h j (Nat.zero_le _) hj)
theorem SortedFrom.none {es : List E} {i : Nat} (h : i + 1 < es.length) (hn : ¬ leE es[i] es[i + 1]) : sortedB es = false := by
  cases hb : sortedB es with
  | false => rfl
  | true => exact absurd (sortedB_iff.1 hb i h) hn
theorem SortedFrom.down {es : List E} {i : Nat} (h : SortedFrom es (i + 1)) (hi : i + 1 < es.length) (hl : leE es[i] es[i + 1]) : SortedFrom es i := by
  intro j hj hjl
  by_cases e : j = i
  · subst e; exact hl
  · exact h j (by omega) hjl
set_option maxHeartbeats 2000000 in
set_option maxRecDepth 100000 in
theorem isf_calls (es : List E) (A : Option Addr) (c : Nat) (w : World) (hr : Kd.C k57 w A es.length es) (hc : es.length ≤ c) :
    Calls Try.prog 91 #[.slice A es.length c, .func (.func 92) #[] #[]] w fun e w' => e = .returned (.bool (sortedB es)) ∧ Below w.heap.size w w' := by
  have hlen := hr.2.1
  have HR := Aside0.mk hr
  have HL := Aside0.mk hlen
  clear hr hlen
  have HB := Aside0.mk (Below.refl w.heap.size w)
  go_enter Try.func91, Try.ntmps91
  go_wp2
  go_loopw [5] (fun v wr => ∃ i : Int, v = .int .i64 i ∧ Aside0 (-1 ≤ i ∧ i < es.length ∧ SortedFrom es i.toNat) ∧ Aside0 (Below w.heap.size w wr)) (fun v _ => (intOf v + 1).toNat)
  case atStart => exact ⟨(es.length : Int) - 1, by rw [wrap_id (by have := HL.out; omega) (by have := HL.out; omega)], ⟨by omega, by omega, fun j hj hjl => by omega⟩, HB⟩
  case round =>
    obtain ⟨i, rfl, HI, HB⟩ := hrel
    by_cases h0 : 0 < i
    · obtain ⟨j, hij⟩ : ∃ j : Nat, i = (j : Int) + 1 := ⟨(i - 1).toNat, by omega⟩
      have hj := HI.out.2.1
      have hl := HL.out
      have hw : wrap64 (i - 1) = (j : Int) := by rw [wrap_id (by omega) (by omega)]; omega
      have p1 : 0 ≤ i := by omega
      have p2 : 0 ≤ wrap64 (i - 1) := by omega
      have q2 : wrap64 (i - 1) < (es.length : Int) := by omega
      obtain ⟨ad, e, hx0, hx1⟩ := at_T57 HR.out i p1 hj
      cases e
      obtain ⟨ad', e, hy0, hy1⟩ := at_T57 HR.out (wrap64 (i - 1)) p2 q2
      cases e
      replace hx0 := (HB.out.cell (World.block_lt_of_cell? w _ hx0)).trans hx0
      replace hx1 := (HB.out.cell (World.block_lt_of_cell? w _ hx1)).trans hx1
      replace hy0 := (HB.out.cell (World.block_lt_of_cell? w _ hy0)).trans hy0
      replace hy1 := (HB.out.cell (World.block_lt_of_cell? w _ hy1)).trans hy1
      have c0 : decide (0 < i) = true := decide_eq_true h0
      replace p1 := eq_true p1
      have q1 := eq_true hj
      replace p2 := eq_true p2
      replace q2 := eq_true q2
      have HW := Aside0.mk hw
      have HIJ := Aside0.mk hij
      clear hj hl hw hij h0
      go_wp2
      go_still_tail 10, (by kernel_rfl)
      simp only [i64_w]
      repeat still_step
      refine wpStill_nil ?_
      change wpList _ _ _ _ _ wr.drew
      have HB' := Aside0.mk (below_drew1 HB.out)
      clear HB hx0 hx1 hy0 hy1
      generalize wr.drew = w2 at HB' ⊢
      have HX := Aside0.mk (cmpE_eq (rd_T57 es i) (rd_T57 es (wrap64 (i - 1))))
      have HC := Aside0.mk (cmpE_lt (rd_T57 es i) (rd_T57 es (wrap64 (i - 1))))
      generalize cmpE (rd_T57 es i) (rd_T57 es (wrap64 (i - 1))) = z at HX HC
      have HE : Aside0 (∃ hj : j + 1 < es.length, rd_T57 es i = es[j + 1] ∧ rd_T57 es (wrap64 (i - 1)) = es[j]) := by
        have hj : j + 1 < es.length := by
          have := HI.out.2.1
          have := HIJ.out
          omega
        have e1 : i = ((j + 1 : Nat) : Int) := by have := HIJ.out; omega
        refine ⟨hj, ?_, ?_⟩
        · rw [e1, rdE_get hj]
        · rw [HW.out, rdE_get (by omega)]
      by_cases hz : z < 0
      · have cz : decide (z < 0) = true := decide_eq_true hz
        have HZ := Aside0.mk hz
        clear hz
        go_wp2_with fail
        refine (impl_compareEdges.calls _ _ _ _ z _ HX.out).mono ?_
        rintro e w3 ⟨rfl, hb⟩
        go_wp2
        go_ret
        obtain ⟨hj, e1, e2⟩ := HE.out
        have hs := SortedFrom.none hj (by rw [← e1, ← e2]; exact HC.out.1 HZ.out)
        exact ⟨by rw [hs]; rfl, below_step HB'.out hb⟩
      · have cz : decide (z < 0) = false := decide_eq_false hz
        have HZ := Aside0.mk hz
        clear hz
        go_wp2_with fail
        refine (impl_compareEdges.calls _ _ _ _ z _ HX.out).mono ?_
        rintro e w3 ⟨rfl, hb⟩
        have HB2 := Aside0.mk (below_step HB'.out hb)
        clear hb
        go_wp2
        go_roundw
        case rel =>
          have hi := HI.out
          have hw := HW.out
          have hij := HIJ.out
          refine ⟨wrap64 (i - 1), rfl, ⟨by omega, by omega, ?_⟩, HB2⟩
          obtain ⟨hj, e1, e2⟩ := HE.out
          have hle : leE es[j] es[j + 1] := by
            rw [← e1, ← e2]
            apply Classical.byContradiction
            intro hn
            have h1 := HC.out.2 hn
            have h2 := HZ.out
            omega
          rw [hw, Int.toNat_natCast]
          refine SortedFrom.down ?_ hj hle
          have := hi.2.2
          rw [hij, show ((j : Int) + 1).toNat = j + 1 by omega] at this
          exact this
        case measure =>
          have hi := HI.out
          have hw := HW.out
          have hij := HIJ.out
          simp [intOf]
          omega
    · have c0 : decide (0 < i) = false := decide_eq_false h0
      have HZ := Aside0.mk h0
      clear h0
      go_wp2
      go_ret
      have := HI.out
      have h0 := HZ.out
      have hs : SortedFrom es i.toNat := this.2.2
      rw [show i.toNat = 0 by omega] at hs
      have ha := hs.all
      exact ⟨by rw [ha]; rfl, HB.out⟩
end Go.Proofs.Ytnbljcgdgblgoaa.Cf
end

section
namespace Go.Proofs.Ytnbljcgdgblgoaa.P
open Go.RowKit Go.Proofs.YtnbljcgdgblgoaaW.PrintWords Go.Proofs.YtnbljcgdgblgoaaW.PrintLast Go.Proofs.YtnbljcgdgblgoaaW.PrintMore
attribute [local go_sem] max2_int min2_int max_two min_two max_three min_three max_four min_four
set_option linter.unusedVariables false
set_option linter.unusedSimpArgs false
def impl_GraphOk.f (a0_0 : Int) (l0_1 : List (S57)) : Option Bool := some (Cf.gOk a0_0 l0_1)
set_option maxHeartbeats 2000000 in
set_option maxRecDepth 100000 in
theorem impl_GraphOk.calls (a0_0 : Int) (A0_1 : Option Addr) (c0_1 : Nat) (l0_1 : List (S57)) (r : Bool) (w : World) (hr0_1 : Kd.C k57 w A0_1 l0_1.length l0_1) (hc0_1 : l0_1.length ≤ c0_1) (h : impl_GraphOk.f a0_0 l0_1 = some r) :
  Calls Try.prog 50 #[.agg #[.int .i64 a0_0, .slice A0_1 l0_1.length c0_1]] w fun e w' => e = .returned (.bool r) ∧ Below w.heap.size w w' := by
 obtain rfl := Option.some.inj h; clear h; obtain ⟨k1, hk1⟩ := (Cf.implEdges a0_0 l0_1).rounds; have HR := Aside0.mk hr0_1; have HK1 := Aside0.mk hk1; clear hr0_1 hk1; go_enter Try.func50, Try.ntmps50; have HB := Aside0.mk (below_alloc (Below.refl w.heap.size w) (.cells #[.int .i64 a0_0, .slice A0_1 l0_1.length c0_1] 25)); have BK := Aside0.mk (heap_alloc_new w (.cells #[.int .i64 a0_0, .slice A0_1 l0_1.length c0_1] 25)); by_cases he : Cf.EsOk a0_0 l0_1; rotate_left
 ·have HE := Aside0.mk he; replace HK1 := Aside0.mk (HK1.out.trans (congrArg some (decide_eq_false he))); clear he; (go_wp2_with fail); refine (impl_EdgesOk.calls k1 _ _ _ l0_1 false _ (Kd.C_below HR.out HB.out) hc0_1 HK1.out).mono ?_; rintro e w1 ⟨rfl, hb⟩; have HB1 := Aside0.mk (below_step HB.out hb); clear hb; go_wp2; go_ret
  have hg : Cf.gOk a0_0 l0_1 = false := by
   cases hb : Cf.gOk a0_0 l0_1 with
   | false => rfl
   | true => exact absurd (Cf.gOk_iff.1 hb).1 HE.out
  exact ⟨by rw [hg]; rfl, HB1.out⟩
 have HE := Aside0.mk he; replace HK1 := Aside0.mk (HK1.out.trans (congrArg some (decide_eq_true he))); clear he; (go_wp2_with fail); refine (impl_EdgesOk.calls k1 _ _ _ l0_1 true _ (Kd.C_below HR.out HB.out) hc0_1 HK1.out).mono ?_; rintro e w1 ⟨rfl, hb⟩; have HB1 := Aside0.mk (below_step HB.out hb); have BK1 := Aside0.mk (blk_below BK.out hb); clear hb; have hz0 : w1.cell? ⟨w.heap.size, 0, none⟩ = some (.int .i64 a0_0) := (blk_cell BK1.out 0).trans rfl; have hz1 : w1.cell? ⟨w.heap.size, 1, none⟩ = some (.slice A0_1 l0_1.length c0_1) := (blk_cell BK1.out 1).trans rfl; (go_wp2_with fail); have HS := Aside0.mk (Cf.isf_calls l0_1 A0_1 c0_1 w1 (Kd.C_below HR.out HB1.out) hc0_1); by_cases hs : Cf.Sorted l0_1; rotate_left
 ·have hsb : Cf.sortedB l0_1 = false := by
   cases hb : Cf.sortedB l0_1 with
   | false => rfl
   | true => exact absurd (Cf.sortedB_iff.1 hb) hs
  rw [hsb] at HS; have HSo := Aside0.mk hs; clear hs hsb; refine HS.out.mono ?_; rintro e w2 ⟨rfl, hb⟩; have HB2 := Aside0.mk (below_step HB1.out hb); clear hb hz0 hz1; go_wp2; go_ret
  have hg : Cf.gOk a0_0 l0_1 = false := by
   cases hb : Cf.gOk a0_0 l0_1 with
   | false => rfl
   | true => exact absurd (Cf.gOk_iff.1 hb).2.1 HSo.out
  exact ⟨by rw [hg]; rfl, HB2.out⟩
 have HSo := Aside0.mk hs; rw [Cf.sortedB_iff.2 hs] at HS; clear hs; refine HS.out.mono ?_; rintro e w2 ⟨rfl, hb⟩; have HB2 := Aside0.mk (below_step HB1.out hb); have BK2 := Aside0.mk (blk_below BK1.out hb); clear hb hz0 hz1; have hz0 : w2.cell? ⟨w.heap.size, 0, none⟩ = some (.int .i64 a0_0) := (blk_cell BK2.out 0).trans rfl; have hz1 : w2.cell? ⟨w.heap.size, 1, none⟩ = some (.slice A0_1 l0_1.length c0_1) := (blk_cell BK2.out 1).trans rfl; (go_wp2_with fail); obtain ⟨h1, h6, hl, hes⟩ := HE.out; obtain ⟨n, rfl⟩ := Int.eq_ofNat_of_zero_le (a := a0_0) (by omega); obtain ⟨k2, hk2⟩ := (Cf.implConn n ⟨by omega, by omega⟩ l0_1 (by omega) hes).rounds; refine (impl_connected.calls k2 _ _ _ l0_1 (Cf.joinedB n l0_1) _ (Kd.C_below HR.out HB2.out) hc0_1 hk2).mono ?_; rintro e w3 ⟨rfl, hd⟩; have HB3 := Aside0.mk (below_step HB2.out hd); clear hd hk2 h1 h6 hl hes
 have hg : Cf.gOk n l0_1 = Cf.joinedB n l0_1 := by
  rw [Bool.eq_iff_iff, Cf.gOk_iff, Cf.joinedB_iff]; exact ⟨fun h => h.2.2, fun h => ⟨HE.out, HSo.out, h⟩⟩
 have HG := Aside0.mk hg; clear hg; generalize Cf.joinedB n l0_1 = z at HG ⊢; cases z
 ·go_wp2; go_ret; exact ⟨by rw [HG.out]; rfl, HB3.out⟩
 ·go_wp2; go_ret; exact ⟨by rw [HG.out]; rfl, HB3.out⟩
def impl_isVertex.f (a0_0 : Int) (l0_1 : List (S57)) (a1 : Int) : Option (Bool) := (impl_GraphOk.f a0_0 l0_1).bind fun t102 => (if t102 = true then ((impl_within.f a1 0 (wrap64 (a0_0 - 1))).bind fun t103 => (some t103)) else (some false))
set_option maxHeartbeats 8000000 in
set_option maxRecDepth 100000 in
theorem impl_isVertex.calls (a0_0 : Int) (A0_1 : Option Addr) (c0_1 : Nat) (l0_1 : List (S57)) (a1 : Int) (r : Bool) (w : World) (hr0_1 : Kd.C k57 w A0_1 l0_1.length l0_1) (hc0_1 : l0_1.length ≤ c0_1) (h : impl_isVertex.f a0_0 l0_1 a1 = some r) :
  Calls Try.prog 47 #[.agg #[.int .i64 a0_0, .slice A0_1 l0_1.length c0_1], .int .i64 a1] w fun e w' => e = .returned (.bool r) ∧ Below w.heap.size w w' := by
 have hu25 := Try.underlying25; have HR0_1 := Aside0.mk hr0_1; have HC0_1 := Aside0.mk hc0_1; clear hr0_1 hc0_1; have HB := Aside0.mk (Below.refl w.heap.size w); have H : ((impl_GraphOk.f a0_0 l0_1).bind fun t102 => (if t102 = true then ((impl_within.f a1 0 (wrap64 (a0_0 - 1))).bind fun t103 => (some t103)) else (some false))) = some r := h; clear h; replace H := Option.bind_eq_some_iff.mp H; obtain ⟨t102, A30, H⟩ := H; (try dsimp only at H); have A3 := Aside0.mk A30; clear A30; by_cases c4 : t102 = true; rotate_left
 ·replace c4 := Bool.eq_false_iff.mpr c4; subst c4; rw [if_neg (show ¬ (false = true) by decide)] at H; obtain rfl := Option.some.inj H; go_enter Try.func47, Try.ntmps47; (go_wp2_with (first | ((with_reducible refine gate_dst (N := 2) rfl ?_); refine box_event ?hg (N := 2) ?hd (cs := #[.int .i64 a0_0, .slice A0_1 l0_1.length c0_1]) (t := 25) ?hr ?_; (case hd => rfl); (case hg => rfl); (case hr => exact zz9); intro gb101 hg w10 hbox hb; have n_ := zA4 (below_step zz1 hb) hbox (zz10 : w.heap.size ≤ gb101) (zz10 : w.heap.size ≤ gb101); clear HB; obtain ⟨HB, BK101, GW101, GE101⟩ := n_; clear hb hbox hg; have hcz11_0 := zC20 BK101; have hcz11_1 := zC21 BK101; have hfz11_0 := blk_frozen BK101.out 0; have hfz11_1 := blk_frozen BK101.out 1) | ((with_reducible refine gate_callee (f := 50) rfl ?_); refine goesL_ (some 6) rfl rfl Try.func50 (by kernel_rfl) rfl #[.agg #[.int .i64 a0_0, .slice A0_1 l0_1.length c0_1]] rfl zz4 ?_; (with_reducible refine (impl_GraphOk.calls a0_0 _ _ l0_1 false _ ?side1 ?side2 A3.out).mono ?_); (case side1 => exact zz6); (case side2 => exact HC0_1.out); rintro e w12 ⟨rfl, hb⟩; refine ⟨_, rfl, ?_⟩; have n_ := zA2 (blk_below (g := gb101) (o := .cells #[.int .i64 a0_0, .slice A0_1 l0_1.length c0_1] 25 (0, 0)) zz2 hb) (below_step zz0 hb); clear BK101 HB; obtain ⟨BK101, HB⟩ := n_; clear hb))); go_ret; exact ⟨zz7, zz0⟩
 subst c4; rw [if_pos rfl] at H; replace H := Option.bind_eq_some_iff.mp H; obtain ⟨t103, A50, H⟩ := H; (try dsimp only at H); have A5 := Aside0.mk A50; clear A50; obtain rfl := Option.some.inj H; go_enter Try.func47, Try.ntmps47; (go_wp2_with (first | ((with_reducible refine gate_dst (N := 2) rfl ?_); refine box_event ?hg (N := 2) ?hd (cs := #[.int .i64 a0_0, .slice A0_1 l0_1.length c0_1]) (t := 25) ?hr ?_; (case hd => rfl); (case hg => rfl); (case hr => exact zz9); intro gb101 hg w6 hbox hb; have n_ := zA4 (below_step zz1 hb) hbox (zz10 : w.heap.size ≤ gb101) (zz10 : w.heap.size ≤ gb101); clear HB; obtain ⟨HB, BK101, GW101, GE101⟩ := n_; clear hb hbox hg; have hcz7_0 := zC20 BK101; have hcz7_1 := zC21 BK101; have hfz7_0 := blk_frozen BK101.out 0; have hfz7_1 := blk_frozen BK101.out 1) | ((with_reducible refine gate_callee (f := 50) rfl ?_); refine goesL_ (some 6) rfl rfl Try.func50 (by kernel_rfl) rfl #[.agg #[.int .i64 a0_0, .slice A0_1 l0_1.length c0_1]] rfl zz4 ?_; (with_reducible refine (impl_GraphOk.calls a0_0 _ _ l0_1 true _ ?side1 ?side2 A3.out).mono ?_); (case side1 => exact zz6); (case side2 => exact HC0_1.out); rintro e w8 ⟨rfl, hb⟩; refine ⟨_, rfl, ?_⟩; have n_ := zA2 (blk_below (g := gb101) (o := .cells #[.int .i64 a0_0, .slice A0_1 l0_1.length c0_1] 25 (0, 0)) zz2 hb) (below_step zz0 hb); clear BK101 HB; obtain ⟨BK101, HB⟩ := n_; clear hb; have hcz9_0 := zC20 BK101; have hcz9_1 := zC21 BK101; have hfz9_0 := blk_frozen BK101.out 0; have hfz9_1 := blk_frozen BK101.out 1) | (go_at_call 39; (with_reducible refine (impl_within.calls a1 0 (wrap64 (a0_0 - 1)) t103 _ A5.out).mono ?_); rintro e w' ⟨rfl, ⟨nd, rfl⟩⟩))); go_ret; exact ⟨zz7, zz0⟩
def impl_allWithin.l0 : Nat → Int → Int → List Int → Int → Int → Option (Bool)
 | 0, _, _, _, _, _ => none
 | k + 1, x1, x2, x9, x10, x11 => if x11 < x10 then (if 0 ≤ x11 then (if x11 < (x9.length : Int) then ((impl_within.f (rd x9 x11) x1 x2).bind fun t102 => (if t102 = true then (impl_allWithin.l0 k x1 x2 x9 x10 (wrap64 (x11 + 1))) else (some false))) else (none)) else (none)) else (some true)
def impl_allWithin.f (k : Nat) (l0 : List Int) (a1 : Int) (a2 : Int) : Option (Bool) := impl_allWithin.l0 k a1 a2 l0 (l0.length : Int) 0
theorem impl_allWithin.mono_l : ∀ k, (∀ y0 y1 y2 y3 y4, LeO (impl_allWithin.l0 k y0 y1 y2 y3 y4) (impl_allWithin.l0 (k + 1) y0 y1 y2 y3 y4))
 | 0 => fun _ _ _ _ _ r h => by simp [impl_allWithin.l0] at h
 | k + 1 => by
  have ih0 := impl_allWithin.mono_l k
  ·intro y0 y1 y2 y3 y4
   unfold impl_allWithin.l0
   exact zm0
theorem impl_allWithin.mono : ∀ a0 a1 a2 k, LeO (impl_allWithin.f k a0 a1 a2) (impl_allWithin.f (k + 1) a0 a1 a2) := by
 intro a0 a1 a2 k; have ih0 := impl_allWithin.mono_l k; unfold impl_allWithin.f; exact zm0
set_option maxHeartbeats 8000000 in
set_option maxRecDepth 100000 in
theorem impl_allWithin.calls (k : Nat) (A0 : Option Addr) (c0 : Nat) (l0 : List Int) (a1 : Int) (a2 : Int) (r : Bool) (w : World) (hr0 : Kd.C (Kd.int .i64) w A0 l0.length l0) (hc0 : l0.length ≤ c0) (h : impl_allWithin.f k l0 a1 a2 = some r) :
  Calls Try.prog 51 #[.slice A0 l0.length c0, .int .i64 a1, .int .i64 a2] w fun e w' => e = .returned (.bool r) ∧ Drawn0 w w' := by
 have HR0 := Aside0.mk hr0; have HC0 := Aside0.mk hc0; clear hr0 hc0; have H : (impl_allWithin.l0 k a1 a2 l0 (l0.length : Int) 0) = some r := h; clear h; have H' := Aside0.mk H; clear H; go_enter Try.func51, Try.ntmps51; go_wp2; (go_loopg [11] k (fun kq v11 w' => ∃ (x11_1 : Int), v11 = .int .i64 x11_1 ∧ Aside0 (impl_allWithin.l0 kq a1 a2 l0 (l0.length : Int) x11_1 = some r) ∧ Aside0 (kq ≤ k) ∧ Drawn0 w w')); case atStart => exact ⟨(0), zz5, H', ⟨Nat.le_refl _⟩, by repeat (first | exact Drawn0.refl _ | apply Drawn0.step)⟩
 case round =>
  clear H'; (try clear p2); obtain ⟨x11_1, rfl, HA, HK1, ⟨m1, rfl⟩⟩ := hrel
  cases gk with
  | zero => exact absurd HA.out (by simp [impl_allWithin.l0])
  | succ k1 =>
   have H := HA.out; clear HA; simp only [impl_allWithin.l0] at H; by_cases c4 : x11_1 < (l0.length : Int); rotate_left
   ·rw [if_neg c4] at H; have c4b0 := decide_eq_false c4; clear c4; obtain rfl := Option.some.inj H; go_wp2; go_ret; exact ⟨zz5, by repeat (first | exact Drawn0.refl _ | apply Drawn0.step)⟩
   rw [if_pos c4] at H; have c4b0 := decide_eq_true c4; clear c4; by_cases c5 : 0 ≤ x11_1; rotate_left
   ·rw [if_neg c5] at H; exact absurd H (by simp)
   rw [if_pos c5] at H; have c5b0 := decide_eq_true c5; clear c5; by_cases c6 : x11_1 < (l0.length : Int); rotate_left
   ·rw [if_neg c6] at H; exact absurd H (by simp)
   rw [if_pos c6] at H; have c6b0 := decide_eq_true c6; clear c6; replace H := Option.bind_eq_some_iff.mp H; obtain ⟨t102, A70, H⟩ := H; (try dsimp only at H); have A7 := Aside0.mk A70; clear A70; by_cases c8 : t102 = true; rotate_left
   ·replace c8 := Bool.eq_false_iff.mpr c8; subst c8; rw [if_neg (show ¬ (false = true) by decide)] at H; obtain rfl := Option.some.inj H; have p101 : 0 ≤ (x11_1 : Int) := of_decide_eq_true zz3; have q101 : x11_1 < (l0.length : Int) := of_decide_eq_true zz3; obtain ⟨ad101, e101, hx101_0⟩ := Kd.at_int HR0.out x11_1 p101 q101; cases e101; replace p101 := eq_true p101; replace q101 := eq_true q101; (go_wp2_with (first | ((with_reducible refine gate_callee (f := 39) rfl ?_); refine goesL_ (some 18) rfl rfl Try.func39 (by kernel_rfl) rfl #[.int .i64 (rd l0 x11_1), .int .i64 a1, .int .i64 a2] rfl zz4 ?_; (with_reducible refine (impl_within.calls (rd l0 x11_1) a1 a2 false _ A7.out).mono ?_); rintro e w' ⟨rfl, ⟨nd, rfl⟩⟩; refine ⟨_, rfl, ?_⟩))); go_ret; exact ⟨zz5, by repeat (first | exact Drawn0.refl _ | apply Drawn0.step)⟩
   subst c8; rw [if_pos rfl] at H; have H' := Aside0.mk H; clear H; have p101 : 0 ≤ (x11_1 : Int) := of_decide_eq_true zz3; have q101 : x11_1 < (l0.length : Int) := of_decide_eq_true zz3; obtain ⟨ad101, e101, hx101_0⟩ := Kd.at_int HR0.out x11_1 p101 q101; cases e101; replace p101 := eq_true p101; replace q101 := eq_true q101; (go_wp2_with (first | ((with_reducible refine gate_callee (f := 39) rfl ?_); refine goesL_ (some 18) rfl rfl Try.func39 (by kernel_rfl) rfl #[.int .i64 (rd l0 x11_1), .int .i64 a1, .int .i64 a2] rfl zz4 ?_; (with_reducible refine (impl_within.calls (rd l0 x11_1) a1 a2 true _ A7.out).mono ?_); rintro e w' ⟨rfl, ⟨nd, rfl⟩⟩; refine ⟨_, rfl, ?_⟩))); go_roundg k1; (case measure => have := HK1.out; omega); case rel => exact ⟨(wrap64 (x11_1 + 1)), zz5, H', ⟨zz36⟩, by repeat (first | exact Drawn0.refl _ | apply Drawn0.step)⟩
def impl_MatrixOk.l0 : Nat → List (List Int) → List (List Int) → Int → Int → Option (Bool)
 | 0, _, _, _, _ => none
 | k + 1, x0, x8, x9, x10 => if x10 < x9 then (if 0 ≤ x10 then (if x10 < (x8.length : Int) then (if ((rd_L3 x8 x10).length : Int) = (x0.length : Int) then ((impl_allWithin.f k (rd_L3 x8 x10) (-500) 500).bind fun t102 => (if t102 = true then (impl_MatrixOk.l0 k x0 x8 x9 (wrap64 (x10 + 1))) else (some false))) else (some false)) else (none)) else (none)) else (some true)
def impl_MatrixOk.f (k : Nat) (l0 : List (List Int)) : Option (Bool) := if (l0.length : Int) > 6 then (some false) else (impl_MatrixOk.l0 k l0 l0 (l0.length : Int) 0)
theorem impl_MatrixOk.mono_l : ∀ k, (∀ y0 y1 y2 y3, LeO (impl_MatrixOk.l0 k y0 y1 y2 y3) (impl_MatrixOk.l0 (k + 1) y0 y1 y2 y3))
 | 0 => fun _ _ _ _ r h => by simp [impl_MatrixOk.l0] at h
 | k + 1 => by
  have ih0 := impl_MatrixOk.mono_l k
  ·intro y0 y1 y2 y3
   unfold impl_MatrixOk.l0
   exact zm11
theorem impl_MatrixOk.mono : ∀ a0 k, LeO (impl_MatrixOk.f k a0) (impl_MatrixOk.f (k + 1) a0) := by
 intro a0 k; have ih0 := impl_MatrixOk.mono_l k; unfold impl_MatrixOk.f; exact zm11
set_option maxHeartbeats 8000000 in
set_option maxRecDepth 100000 in
theorem impl_MatrixOk.calls (k : Nat) (A0 : Option Addr) (c0 : Nat) (l0 : List (List Int)) (r : Bool) (w : World) (hr0 : Kd.C (Kd.slice 3 (Kd.int .i64)) w A0 l0.length l0) (hc0 : l0.length ≤ c0) (h : impl_MatrixOk.f k l0 = some r) :
  Calls Try.prog 143 #[.slice A0 l0.length c0] w fun e w' => e = .returned (.bool r) ∧ Drawn0 w w' := by
 have HR0 := Aside0.mk hr0; have HC0 := Aside0.mk hc0; clear hr0 hc0; have H : (if (l0.length : Int) > 6 then (some false) else (impl_MatrixOk.l0 k l0 l0 (l0.length : Int) 0)) = some r := h; clear h; by_cases c2 : (l0.length : Int) > 6
 ·rw [if_pos c2] at H; have c2b0 : decide (6 < (l0.length : Int)) = true := decide_eq_true c2; have c2b1 : decide (6 < l0.length) = true := decide_eq_true (by omega); clear c2; obtain rfl := Option.some.inj H; go_enter Try.func143, Try.ntmps143; go_wp2; go_ret; exact ⟨zz5, by repeat (first | exact Drawn0.refl _ | apply Drawn0.step)⟩
 rw [if_neg c2] at H; have c2b0 : decide (6 < (l0.length : Int)) = false := decide_eq_false c2; have c2b1 : decide (6 < l0.length) = false := decide_eq_false (by omega); clear c2; have H' := Aside0.mk H; clear H; go_enter Try.func143, Try.ntmps143; go_wp2; (go_loopg [10] k (fun kq v10 w' => ∃ (x10_1 : Int), v10 = .int .i64 x10_1 ∧ Aside0 (impl_MatrixOk.l0 kq l0 l0 (l0.length : Int) x10_1 = some r) ∧ Aside0 (kq ≤ k) ∧ Drawn0 w w')); case atStart => exact ⟨(0), zz5, H', ⟨Nat.le_refl _⟩, by repeat (first | exact Drawn0.refl _ | apply Drawn0.step)⟩
 case round =>
  clear H'; (try clear c1); (try clear c2); (try clear c2b0); (try clear c2b1); (try clear p2); obtain ⟨x10_1, rfl, HA, HK1, ⟨m1, rfl⟩⟩ := hrel
  cases gk with
  | zero => exact absurd HA.out (by simp [impl_MatrixOk.l0])
  | succ k1 =>
   have H := HA.out; clear HA; simp only [impl_MatrixOk.l0] at H; by_cases c3 : x10_1 < (l0.length : Int); rotate_left
   ·rw [if_neg c3] at H; have c3b0 := decide_eq_false c3; (try (have c3b8101_0 := c3b0; first | rw [hl101_0] at c3b8101_0 | rw [← hl101_0] at c3b8101_0)); clear c3; obtain rfl := Option.some.inj H; go_wp2; go_ret; exact ⟨zz5, by repeat (first | exact Drawn0.refl _ | apply Drawn0.step)⟩
   rw [if_pos c3] at H; have c3b0 := decide_eq_true c3; clear c3; by_cases c4 : 0 ≤ x10_1; rotate_left
   ·rw [if_neg c4] at H; exact absurd H (by simp)
   rw [if_pos c4] at H; have c4b0 := decide_eq_true c4; clear c4; by_cases c5 : x10_1 < (l0.length : Int); rotate_left
   ·rw [if_neg c5] at H; exact absurd H (by simp)
   rw [if_pos c5] at H; have c5b0 := decide_eq_true c5; clear c5; by_cases c6 : ((rd_L3 l0 x10_1).length : Int) = (l0.length : Int); rotate_left
   ·rw [if_neg c6] at H; have c6b0 : (((rd_L3 l0 x10_1).length : Int) == (l0.length : Int)) = false := beq_eq_false_iff_ne.mpr c6; have c6b1 : (((rd_L3 l0 x10_1).length : Int) != (l0.length : Int)) = true := bne_iff_ne.mpr c6; (have c6b2 : ((rd_L3 l0 x10_1).length == l0.length) = false := by first | simpa using c6 | (simp at c6 ⊢; omega)); obtain rfl := Option.some.inj H; have p101 : 0 ≤ (x10_1 : Int) := of_decide_eq_true zz3; have q101 : x10_1 < (l0.length : Int) := of_decide_eq_true zz3; obtain ⟨ad101, A101_0, c101_0, e101, hx101_0, hl101_0, hi101_0⟩ := at_L3 HR0.out x10_1 p101 q101; cases e101; have HR101_0 := Aside0.mk hi101_0; have HC101_0 := Aside0.mk hl101_0; clear hi101_0 hl101_0; replace p101 := eq_true p101; replace q101 := eq_true q101; go_wp2; go_ret; exact ⟨zz5, by repeat (first | exact Drawn0.refl _ | apply Drawn0.step)⟩
   rw [if_pos c6] at H; have c6b0 : (((rd_L3 l0 x10_1).length : Int) == (l0.length : Int)) = true := beq_iff_eq.mpr c6; have c6b1 : (((rd_L3 l0 x10_1).length : Int) != (l0.length : Int)) = false := bne_eq_false_iff_eq.mpr c6; (have c6b2 : ((rd_L3 l0 x10_1).length == l0.length) = true := by first | simpa using c6 | (simp at c6 ⊢; omega)); clear c6; replace H := Option.bind_eq_some_iff.mp H; obtain ⟨t102, A70, H⟩ := H; (try dsimp only at H); have A7 := Aside0.mk A70; clear A70; by_cases c8 : t102 = true; rotate_left
   ·replace c8 := Bool.eq_false_iff.mpr c8; subst c8; rw [if_neg (show ¬ (false = true) by decide)] at H; obtain rfl := Option.some.inj H; have p101 : 0 ≤ (x10_1 : Int) := of_decide_eq_true zz3; have q101 : x10_1 < (l0.length : Int) := of_decide_eq_true zz3; obtain ⟨ad101, A101_0, c101_0, e101, hx101_0, hl101_0, hi101_0⟩ := at_L3 HR0.out x10_1 p101 q101; cases e101; have HR101_0 := Aside0.mk hi101_0; have HC101_0 := Aside0.mk hl101_0; clear hi101_0 hl101_0; replace p101 := eq_true p101; replace q101 := eq_true q101; (go_wp2_with (first | (go_at_call 51; (with_reducible refine (impl_allWithin.calls k1 _ _ (rd_L3 l0 x10_1) (-500) 500 false _ ?side1 ?side2 A7.out).mono ?_); (case side1 => exact zz21); (case side2 => exact HC101_0.out); rintro e w' ⟨rfl, ⟨nd, rfl⟩⟩))); go_ret; exact ⟨zz5, by repeat (first | exact Drawn0.refl _ | apply Drawn0.step)⟩
   subst c8; rw [if_pos rfl] at H; have H' := Aside0.mk H; clear H; have p101 : 0 ≤ (x10_1 : Int) := of_decide_eq_true zz3; have q101 : x10_1 < (l0.length : Int) := of_decide_eq_true zz3; obtain ⟨ad101, A101_0, c101_0, e101, hx101_0, hl101_0, hi101_0⟩ := at_L3 HR0.out x10_1 p101 q101; cases e101; have HR101_0 := Aside0.mk hi101_0; have HC101_0 := Aside0.mk hl101_0; clear hi101_0 hl101_0; replace p101 := eq_true p101; replace q101 := eq_true q101; (go_wp2_with (first | (go_at_call 51; (with_reducible refine (impl_allWithin.calls k1 _ _ (rd_L3 l0 x10_1) (-500) 500 true _ ?side1 ?side2 A7.out).mono ?_); (case side1 => exact zz21); (case side2 => exact HC101_0.out); rintro e w' ⟨rfl, ⟨nd, rfl⟩⟩))); go_roundg k1; (case measure => have := HK1.out; omega); case rel => exact ⟨(wrap64 (x10_1 + 1)), zz5, H', ⟨zz36⟩, by repeat (first | exact Drawn0.refl _ | apply Drawn0.step)⟩
mutual
def impl_determinant.l0 : Nat → List (List Int) → List Int → Int → Int → Int → List Int → Int → Int → Option (Int)
 | 0, _, _, _, _, _, _, _, _ => none
 | k + 1, x0, x1, x2, x7, x8, x19, x20, x21 => if x21 < x20 then (if 0 ≤ x21 then (if x21 < (x19.length : Int) then (if (Go.bits .and .i64 (shr .i64 x2 x21) 1) = 0 then (impl_determinant.l0 k x0 x1 x2 x7 x8 x19 x20 (wrap64 (x21 + 1))) else (if (rd x19 x21) = 0 then (impl_determinant.l0 k x0 x1 x2 x7 (wrap64 (-x8)) x19 x20 (wrap64 (x21 + 1))) else (if 1 ≤ (x1.length : Int) then ((impl_determinant.f k x0 (x1.drop 1) (Go.bits .andNot .i64 x2 (shl .i64 1 x21))).bind fun t105 => (impl_determinant.l0 k x0 x1 x2 (wrap64 (x7 + (wrap64 ((wrap64 (x8 * (rd x19 x21))) * t105)))) (wrap64 (-x8)) x19 x20 (wrap64 (x21 + 1)))) else (none)))) else (none)) else (none)) else (some x7)
def impl_determinant.f : Nat → List (List Int) → List Int → Int → Option (Int)
 | 0, _, _, _ => none
 | k + 1, l0, l1, a2 => if (l1.length : Int) = 0 then (some 1) else (if 0 < (l1.length : Int) then (if 0 ≤ (rd l1 0) then (if (rd l1 0) < (l0.length : Int) then (impl_determinant.l0 k l0 l1 a2 0 1 (rd_L3 l0 (rd l1 0)) ((rd_L3 l0 (rd l1 0)).length : Int) 0) else (none)) else (none)) else (none))
end
theorem impl_determinant.mono_l : ∀ k, (∀ y0 y1 y2, LeO (impl_determinant.f k y0 y1 y2) (impl_determinant.f (k + 1) y0 y1 y2)) ∧ (∀ y0 y1 y2 y3 y4 y5 y6 y7, LeO (impl_determinant.l0 k y0 y1 y2 y3 y4 y5 y6 y7) (impl_determinant.l0 (k + 1) y0 y1 y2 y3 y4 y5 y6 y7))
 | 0 => ⟨fun _ _ _ r h => by simp [impl_determinant.f] at h, fun _ _ _ _ _ _ _ _ r h => by simp [impl_determinant.l0] at h⟩
 | k + 1 => by
  obtain ⟨ih0, ih1⟩ := impl_determinant.mono_l k
  refine ⟨?_, ?_⟩
  ·intro y0 y1 y2
   unfold impl_determinant.f
   exact zm1
  ·intro y0 y1 y2 y3 y4 y5 y6 y7
   unfold impl_determinant.l0
   exact zm1
theorem impl_determinant.mono : ∀ a0 a1 a2 k, LeO (impl_determinant.f k a0 a1 a2) (impl_determinant.f (k + 1) a0 a1 a2) := by
 intro a0 a1 a2 k; obtain ⟨ih0, ih1⟩ := impl_determinant.mono_l k; exact ih0 a0 a1 a2
def impl_determinant.T9 : Bool × List (List Nat × List Nat) := (true, [([], []), ([], []), ([], []), ([1, 2], [1, 2]), ([], []), ([], []), ([5], [5]), ([], []), ([], []), ([8], [8]), ([7, 9], [7, 9]), ([4, 6, 10], [4, 6, 10]), ([3, 11], [3, 11]), ([0, 12], [0, 12]), ([13, 11, 0, 1, 2, 3, 4, 5, 6, 7, 8, 9, 10, 11, 12, 13], [0, 13])])
def impl_determinant.B9 : List Nat := [0, 0, 0, 6, 0, 0, 32, 0, 0, 256, 896, 2032, 4094, 8191, 16383]
theorem impl_determinant.tab9 : rtab .any (opsOf Try.f144 9) = impl_determinant.T9 := by kernel_rfl
theorem impl_determinant.bits9 : waitsOk impl_determinant.T9.2 impl_determinant.B9 = true := by kernel_rfl
set_option maxHeartbeats 8000000 in
set_option maxRecDepth 100000 in
theorem impl_determinant.calls (k : Nat) : ∀ (A0 : Option Addr) (c0 : Nat) (l0 : List (List Int)) (A1 : Option Addr) (c1 : Nat) (l1 : List Int) (a2 : Int) (r : Int) (w : World) (hr0 : Kd.C (Kd.slice 3 (Kd.int .i64)) w A0 l0.length l0) (hc0 : l0.length ≤ c0) (hr1 : Kd.C (Kd.int .i64) w A1 l1.length l1) (hc1 : l1.length ≤ c1) (h : impl_determinant.f k l0 l1 a2 = some r),
  Calls Try.prog 144 #[.slice A0 l0.length c0, .slice A1 l1.length c1, .int .i64 a2] w fun e w' => e = .returned (.int .i64 r) ∧ Below w.heap.size w w' := by
 induction k using Nat.strongRecOn with
 | _ k ih =>
 intro A0 c0 l0 A1 c1 l1 a2 r w hr0 hc0 hr1 hc1 h
 cases k with
 | zero => exact absurd h (by simp [impl_determinant.f])
 | succ k =>
 simp only [impl_determinant.f] at h; have HR0 := Aside0.mk hr0; have HC0 := Aside0.mk hc0; clear hr0 hc0; have HR1 := Aside0.mk hr1; have HC1 := Aside0.mk hc1; clear hr1 hc1; have HB := Aside0.mk (Below.refl w.heap.size w); have H : (if (l1.length : Int) = 0 then (some 1) else (if 0 < (l1.length : Int) then (if 0 ≤ (rd l1 0) then (if (rd l1 0) < (l0.length : Int) then (impl_determinant.l0 k l0 l1 a2 0 1 (rd_L3 l0 (rd l1 0)) ((rd_L3 l0 (rd l1 0)).length : Int) 0) else (none)) else (none)) else (none))) = some r := h; clear h; by_cases c4 : (l1.length : Int) = 0
 ·rw [if_pos c4] at H; have c4b0 : ((l1.length : Int) == 0) = true := beq_iff_eq.mpr c4; have c4b1 : ((l1.length : Int) != 0) = false := bne_eq_false_iff_eq.mpr c4; clear c4; obtain rfl := Option.some.inj H; go_enter Try.func144, Try.ntmps144; go_wp2; go_ret; exact ⟨zz7, zz1⟩
 rw [if_neg c4] at H; have c4b0 : ((l1.length : Int) == 0) = false := beq_eq_false_iff_ne.mpr c4; have c4b1 : ((l1.length : Int) != 0) = true := bne_iff_ne.mpr c4; (have c4b2 : ¬ (l1 = []) := fun h_ => c4 (by rw [h_]; rfl)); by_cases c5 : 0 < (l1.length : Int); rotate_left
 ·rw [if_neg c5] at H; exact absurd H (by simp)
 rw [if_pos c5] at H; have c5b0 := decide_eq_true c5; have c5b1 : decide (0 < l1.length) = true := decide_eq_true (by omega); clear c5; by_cases c6 : 0 ≤ (rd l1 0); rotate_left
 ·rw [if_neg c6] at H; exact absurd H (by simp)
 rw [if_pos c6] at H; have c6b0 := decide_eq_true c6; clear c6; by_cases c7 : (rd l1 0) < (l0.length : Int); rotate_left
 ·rw [if_neg c7] at H; exact absurd H (by simp)
 rw [if_pos c7] at H; have c7b0 := decide_eq_true c7; clear c7; have H' := Aside0.mk H; clear H; have p101 : 0 ≤ (0 : Int) := (by omega); have q101 : 0 < (l1.length : Int) := of_decide_eq_true zz3; obtain ⟨ad101, e101, hx101_0⟩ := Kd.at_int HR1.out 0 p101 q101; cases e101; have qi101 : (0 < l1.length) = True := eq_true (by omega); (try rw [show ((0 : Int)).toNat = 0 from rfl] at hx101_0); (try rw [Addr.add_zero'] at hx101_0); replace p101 := eq_true p101; replace q101 := eq_true q101; have p102 : 0 ≤ ((rd l1 0) : Int) := of_decide_eq_true zz3; have q102 : (rd l1 0) < (l0.length : Int) := of_decide_eq_true zz3; obtain ⟨ad102, A102_0, c102_0, e102, hx102_0, hl102_0, hi102_0⟩ := at_L3 HR0.out (rd l1 0) p102 q102; cases e102; have HR102_0 := Aside0.mk hi102_0; have HC102_0 := Aside0.mk hl102_0; clear hi102_0 hl102_0; replace p102 := eq_true p102; replace q102 := eq_true q102; go_enter Try.func144, Try.ntmps144; go_wp2; (go_loopg [7, 8, 21] k (fun kq v7 v8 v21 w' => ∃ (x7_1 : Int) (x8_1 : Int) (x21_1 : Int), v7 = .int .i64 x7_1 ∧ v8 = .int .i64 x8_1 ∧ v21 = .int .i64 x21_1 ∧ Aside0 (impl_determinant.l0 kq l0 l1 a2 x7_1 x8_1 (rd_L3 l0 (rd l1 0)) ((rd_L3 l0 (rd l1 0)).length : Int) x21_1 = some r) ∧ Aside0 (kq ≤ k) ∧ Aside0 (Below w.heap.size w w'))); case atStart => exact ⟨(0), (1), (0), zz5, zz5, zz5, H', ⟨Nat.le_refl _⟩, ⟨zz1⟩⟩
 case round =>
  clear H'; (try clear c1); (try clear p1); (try clear q1); (try clear hx1); (try clear qi1); (try clear p2); (try clear c4); (try clear c4b0); (try clear c4b1); (try clear c4b2); (try clear c5); (try clear c5b0); (try clear c5b1); (try clear c6); (try clear c6b0); (try clear c7); (try clear c7b0); (try clear hx101_0); (try clear hx102_0); (try clear p101); (try clear p102); (try clear q101); (try clear q102); obtain ⟨x7_1, x8_1, x21_1, rfl, rfl, rfl, HA, HK1, HB⟩ := hrel
  cases gk with
  | zero => exact absurd HA.out (by simp [impl_determinant.l0])
  | succ k1 =>
   have H := HA.out; clear HA; simp only [impl_determinant.l0] at H; by_cases c8 : x21_1 < ((rd_L3 l0 (rd l1 0)).length : Int); rotate_left
   ·rw [if_neg c8] at H; have c8b0 := decide_eq_false c8; (try (have c8b8102_0 := c8b0; first | rw [hl102_0] at c8b8102_0 | rw [← hl102_0] at c8b8102_0)); clear c8; obtain rfl := Option.some.inj H; go_wp2; go_ret; exact ⟨zz7, zz1⟩
   rw [if_pos c8] at H; have c8b0 := decide_eq_true c8; (try (have c8b8102_0 := c8b0; first | rw [hl102_0] at c8b8102_0 | rw [← hl102_0] at c8b8102_0)); clear c8; by_cases c9 : 0 ≤ x21_1; rotate_left
   ·rw [if_neg c9] at H; exact absurd H (by simp)
   rw [if_pos c9] at H; have c9b0 := decide_eq_true c9; clear c9; by_cases c10 : x21_1 < ((rd_L3 l0 (rd l1 0)).length : Int); rotate_left
   ·rw [if_neg c10] at H; exact absurd H (by simp)
   rw [if_pos c10] at H; have c10b0 := decide_eq_true c10; (try (have c10b8102_0 := c10b0; first | rw [hl102_0] at c10b8102_0 | rw [← hl102_0] at c10b8102_0)); clear c10; have c11b0 := eq_true (of_decide_eq_true zz3 : 0 ≤ x21_1); obtain ⟨ji12, hji12⟩ : ∃ j_ : Int, (shr .i64 a2 x21_1) = j_ := ⟨_, rfl⟩; (replace H : (if (Go.bits .and .i64 (ji12) 1) = 0 then (impl_determinant.l0 k1 l0 l1 a2 x7_1 x8_1 (rd_L3 l0 (rd l1 0)) ((rd_L3 l0 (rd l1 0)).length : Int) (wrap64 (x21_1 + 1))) else (if (rd (rd_L3 l0 (rd l1 0)) x21_1) = 0 then (impl_determinant.l0 k1 l0 l1 a2 x7_1 (wrap64 (-x8_1)) (rd_L3 l0 (rd l1 0)) ((rd_L3 l0 (rd l1 0)).length : Int) (wrap64 (x21_1 + 1))) else (if 1 ≤ (l1.length : Int) then ((impl_determinant.f k1 l0 (l1.drop 1) (Go.bits .andNot .i64 a2 (shl .i64 1 x21_1))).bind fun t105 => (impl_determinant.l0 k1 l0 l1 a2 (wrap64 (x7_1 + (wrap64 ((wrap64 (x8_1 * (rd (rd_L3 l0 (rd l1 0)) x21_1))) * t105)))) (wrap64 (-x8_1)) (rd_L3 l0 (rd l1 0)) ((rd_L3 l0 (rd l1 0)).length : Int) (wrap64 (x21_1 + 1)))) else (none)))) = some r := by first | (rw [hji12] at H; exact H) | (simp only [hji12] at H ⊢; exact H)); have hji12_ : (a2 / 2 ^ min x21_1.toNat 64) = ji12 := hji12; have hji12z : x21_1 ≤ 64 → (a2 / 2 ^ x21_1.toNat) = ji12 := shr_small hji12; by_cases c13 : (Go.bits .and .i64 (ji12) 1) = 0
   ·rw [if_pos c13] at H; have c13b0 : ((Go.bits .and .i64 (ji12) 1) == 0) = true := beq_iff_eq.mpr c13; have c13b1 : ((Go.bits .and .i64 (ji12) 1) != 0) = false := bne_eq_false_iff_eq.mpr c13; clear c13; have H' := Aside0.mk H; clear H; have p103 : 0 ≤ (x21_1 : Int) := of_decide_eq_true zz3; have q103 : x21_1 < ((rd_L3 l0 (rd l1 0)).length : Int) := of_decide_eq_true zz3; obtain ⟨ad103, e103, hx103_0⟩ := Kd.at_int HR102_0.out x21_1 p103 q103; cases e103; replace hx103_0 := (HB.out.cell (World.block_lt_of_cell? w _ hx103_0)).trans hx103_0; replace p103 := eq_true p103; replace q103 := eq_true q103; go_wp2; go_roundg k1; (case measure => have := HK1.out; omega); case rel => exact ⟨(x7_1), (x8_1), (wrap64 (x21_1 + 1)), zz5, zz5, zz5, H', ⟨zz36⟩, ⟨zz1⟩⟩
   rw [if_neg c13] at H; have c13b0 : ((Go.bits .and .i64 (ji12) 1) == 0) = false := beq_eq_false_iff_ne.mpr c13; have c13b1 : ((Go.bits .and .i64 (ji12) 1) != 0) = true := bne_iff_ne.mpr c13; by_cases c14 : (rd (rd_L3 l0 (rd l1 0)) x21_1) = 0
   ·rw [if_pos c14] at H; have c14b0 : ((rd (rd_L3 l0 (rd l1 0)) x21_1) == 0) = true := beq_iff_eq.mpr c14; have c14b1 : ((rd (rd_L3 l0 (rd l1 0)) x21_1) != 0) = false := bne_eq_false_iff_eq.mpr c14; clear c14; have H' := Aside0.mk H; clear H; have p103 : 0 ≤ (x21_1 : Int) := of_decide_eq_true zz3; have q103 : x21_1 < ((rd_L3 l0 (rd l1 0)).length : Int) := of_decide_eq_true zz3; obtain ⟨ad103, e103, hx103_0⟩ := Kd.at_int HR102_0.out x21_1 p103 q103; cases e103; replace hx103_0 := (HB.out.cell (World.block_lt_of_cell? w _ hx103_0)).trans hx103_0; replace p103 := eq_true p103; replace q103 := eq_true q103; go_wp2; go_roundg k1; (case measure => have := HK1.out; omega); case rel => exact ⟨(x7_1), (wrap64 (-x8_1)), (wrap64 (x21_1 + 1)), zz5, zz5, zz5, H', ⟨zz36⟩, ⟨zz1⟩⟩
   rw [if_neg c14] at H; have c14b0 : ((rd (rd_L3 l0 (rd l1 0)) x21_1) == 0) = false := beq_eq_false_iff_ne.mpr c14; have c14b1 : ((rd (rd_L3 l0 (rd l1 0)) x21_1) != 0) = true := bne_iff_ne.mpr c14; by_cases c15 : 1 ≤ (l1.length : Int); rotate_left
   ·rw [if_neg c15] at H; exact absurd H (by simp)
   rw [if_pos c15] at H; have c15b0 := eq_true c15; have c15b1 : decide (1 ≤ (l1.length : Int)) = true := decide_eq_true c15; clear c15; have c16b0 := eq_true (of_decide_eq_true zz3 : 0 ≤ x21_1); obtain ⟨ji17, hji17⟩ : ∃ j_ : Int, (shl .i64 1 x21_1) = j_ := ⟨_, rfl⟩; (replace H : ((impl_determinant.f k1 l0 (l1.drop 1) (Go.bits .andNot .i64 a2 (ji17))).bind fun t105 => (impl_determinant.l0 k1 l0 l1 a2 (wrap64 (x7_1 + (wrap64 ((wrap64 (x8_1 * (rd (rd_L3 l0 (rd l1 0)) x21_1))) * t105)))) (wrap64 (-x8_1)) (rd_L3 l0 (rd l1 0)) ((rd_L3 l0 (rd l1 0)).length : Int) (wrap64 (x21_1 + 1)))) = some r := by first | (rw [hji17] at H; exact H) | (simp only [hji17] at H ⊢; exact H)); have hji17_ : (IntKind.i64.wrap (1 * 2 ^ min x21_1.toNat 64)) = ji17 := hji17; have hji17z : x21_1 ≤ 64 → (IntKind.i64.wrap (1 * 2 ^ x21_1.toNat)) = ji17 := shl_small hji17; (have hji17u : (IntKind.i64.wrap (2 ^ min x21_1.toNat 64)) = ji17 := by have h_ := hji17_; rw [Int.one_mul] at h_; exact h_); (have hji17v : x21_1 ≤ 64 → (IntKind.i64.wrap (2 ^ x21_1.toNat)) = ji17 := fun hle_ => by have h_ := hji17z hle_; rw [Int.one_mul] at h_; exact h_); have hji17y : (wrap64 (1 * 2 ^ min x21_1.toNat 64)) = ji17 := (i64_w _).symm.trans hji17_; (have hji17x : x21_1 ≤ 64 → (wrap64 (1 * 2 ^ x21_1.toNat)) = ji17 := fun h_ => (i64_w _).symm.trans (hji17z h_)); replace H := Option.bind_eq_some_iff.mp H; obtain ⟨t105, A180, H⟩ := H; (try dsimp only at H); have A18 := Aside0.mk A180; clear A180; have H' := Aside0.mk H; clear H; have p103 : 0 ≤ (x21_1 : Int) := of_decide_eq_true zz3; have q103 : x21_1 < ((rd_L3 l0 (rd l1 0)).length : Int) := of_decide_eq_true zz3; obtain ⟨ad103, e103, hx103_0⟩ := Kd.at_int HR102_0.out x21_1 p103 q103; cases e103; replace hx103_0 := (HB.out.cell (World.block_lt_of_cell? w _ hx103_0)).trans hx103_0; replace p103 := eq_true p103; replace q103 := eq_true q103; (try go_wp2); replace HB := Aside0.mk (below_drew1 HB.out); obtain ⟨i020, hi020, _, hsz20, _⟩ := info_parts info3; obtain ⟨A20, hcut20, hA20, hC20⟩ := print_drop_of (P := Try.prog) (Value.int .i64) 0 26 3 .i64 Try.underlying26 hi020 hsz20 (some ad101) c1 l1 1 (by omega) (of_decide_eq_true zz3) HC1.out; have HR104 := Aside0.mk (Kd.C_of_reads (h1 := fun _ => rfl) (hA20 _ (Kd.reads_of_C HR1.out))); have HC104 := Aside0.mk hC20; clear hA20 hC20 hi020 hsz20; refine start_ (n := 15) (S := fun w' => True) (ds := []) (zM 15 0) (by kernel_rfl) rfl rfl trivial (fun hHeld => ?_); refine with_tabW impl_determinant.tab9 impl_determinant.bits9 (fun HT_ HW_ => ?_); generalize wr.drew = w19 at HB HR104 hHeld ⊢; refine zQ 0 33 (zM 15 1) ?_
   refine zQ 1 34 (zM 15 3) ?_
   refine zQ 2 35 (zM 15 7) ?_
   refine zQ 3 36 (zM 15 15) ?_
   refine zQ 4 37 (zM 15 31) ?_
   refine zQ 5 38 (zM 15 63) ?_
   refine zQ 6 39 (zM 15 127) ?_
   refine zQ 7 40 (zM 15 255) ?_
   refine zQ 8 41 (zM 15 511) ?_
   refine zQ 9 42 (zM 15 1023) ?_
   refine zQ 10 43 (zM 15 2047) ?_
   refine one_ (i := 11) (N := some 44) (zM 15 4095) rfl rfl (one_of HT_.out (by kernel_rfl)) (by decide) (fun K hK => ?_); refine goes_ Try.func144 (by kernel_rfl) rfl #[.slice (some ad102) l0.length c0, .slice A20 (l1.drop 1).length (c1 - 1), .int .i64 (Go.bits .andNot .i64 a2 (ji17))] (by rfl) rfl rfl (by (try simp only [List.map_toArray, List.map_cons, List.map_nil]); first | done | (rw [show (l1.drop 1).length = (l1.length - 1) from List.length_drop] <;> rfl) | (simp only [hji17]; rfl) | rfl | (simp only [List.length_drop, List.length_take]; rfl)) ?_; (with_reducible refine (ih k1 (by have := HK1.out; omega) _ _ l0 _ _ (l1.drop 1) (Go.bits .andNot .i64 a2 (ji17)) t105 _ ?side1 ?side2 ?side3 ?side4 A18.out).mono ?_); (case side1 => exact zz45); (case side2 => exact HC0.out); (case side3 => repeat (first | exact (Kd.C_below HR104.out HB.out) | (with_reducible refine Kd.C_alloc ?_ _) | (with_reducible refine Kd.C_drewN ?_ _) | (with_reducible refine Kd.C_drew ?_))); (case side4 => exact HC104.out); rintro e w21 ⟨rfl, hb⟩; refine ⟨_, rfl, ?_⟩; replace HB := Aside0.mk (below_step zz1 hb); clear hb; refine hK.out _ _ trivial (fun hHeld => ?_); clear hK K; refine norm_ (a' := ?_) ?_ ?_; rotate_left
   ·show Act.put _ (some 44) _ = _; exact zzS
   refine zQ 12 45 (zM 15 8191) ?_
   refine zQ 13 46 (zM 15 16383) ?_
   refine zQ 14 7 (zM 15 32767) ?_
   refine done_ (done_of HT_.out (by kernel_rfl)) ?_; (try go_wp2); go_roundg k1; (case measure => have := HK1.out; omega); case rel => exact ⟨(wrap64 (x7_1 + (wrap64 ((wrap64 (x8_1 * (rd (rd_L3 l0 (rd l1 0)) x21_1))) * t105)))), (wrap64 (-x8_1)), (wrap64 (x21_1 + 1)), zz5, zz5, zz5, H', ⟨zz36⟩, ⟨zz1⟩⟩
end Go.Proofs.Ytnbljcgdgblgoaa.P
end

section
namespace Go.Proofs.Ytnbljcgdgblgoaa.P
open Go.RowKit Go.Proofs.YtnbljcgdgblgoaaW.PrintWords Go.Proofs.YtnbljcgdgblgoaaW.PrintLast Go.Proofs.YtnbljcgdgblgoaaW.PrintMore
attribute [local go_sem] max2_int min2_int max_two min_two max_three min_three max_four min_four
set_option linter.unusedVariables false
set_option linter.unusedSimpArgs false
def impl_bitsOf.l0 : Nat → Int → List Int → Int → Option (List Int)
 | 0, _, _, _ => none
 | k + 1, x0, x3, x4 => if 0 ≤ x4 then (if (shr .i64 x0 x4) > 0 then (if (Go.bits .and .i64 (shr .i64 x0 x4) 1) = 1 then (if x3.length < 17592186044416 then (impl_bitsOf.l0 k x0 (x3 ++ [x4]) (wrap64 (x4 + 1))) else (none)) else (impl_bitsOf.l0 k x0 x3 (wrap64 (x4 + 1)))) else (some x3)) else (none)
def impl_bitsOf.f (k : Nat) (a0 : Int) : Option (List Int) := impl_bitsOf.l0 k a0 ([] : List Int) 0
theorem impl_bitsOf.mono_l : ∀ k, (∀ y0 y1 y2, LeO (impl_bitsOf.l0 k y0 y1 y2) (impl_bitsOf.l0 (k + 1) y0 y1 y2))
 | 0 => fun _ _ _ r h => by simp [impl_bitsOf.l0] at h
 | k + 1 => by
  have ih0 := impl_bitsOf.mono_l k
  ·intro y0 y1 y2
   unfold impl_bitsOf.l0
   exact zm0
theorem impl_bitsOf.mono : ∀ a0 k, LeO (impl_bitsOf.f k a0) (impl_bitsOf.f (k + 1) a0) := by
 intro a0 k; have ih0 := impl_bitsOf.mono_l k; unfold impl_bitsOf.f; exact zm0
set_option maxHeartbeats 8000000 in
set_option maxRecDepth 100000 in
theorem impl_bitsOf.calls (k : Nat) (a0 : Int) (r : List Int) (w : World) (h : impl_bitsOf.f k a0 = some r) :
  Calls Try.prog 145 #[.int .i64 a0] w fun e w' => ∃ v0_ : Value, e = .returned (v0_) ∧ Kd.R (Kd.int .i64) 3 w' w.heap.size (fun _ => True) v0_ r ∧ Below w.heap.size w w' := by
 have HB := Aside0.mk (Below.refl w.heap.size w); have H : (impl_bitsOf.l0 k a0 ([] : List Int) 0) = some r := h; clear h; have H' := Aside0.mk H; clear H; go_enter Try.func145, Try.ntmps145; go_wp2; (go_loopg [3, 4] k (fun kq v3 v4 w' => ∃ (x3_1 : List Int) (x4_1 : Int), v4 = .int .i64 x4_1 ∧ Aside0 (impl_bitsOf.l0 kq a0 x3_1 x4_1 = some r) ∧ Aside0 (kq ≤ k) ∧ Aside0 (Kd.R (Kd.int .i64) 3 w' w.heap.size (fun _ => True) v3 x3_1) ∧ Aside0 (Below w.heap.size w w'))); case atStart => exact ⟨(([] : List Int)), (0), zz5, H', ⟨Nat.le_refl _⟩, ⟨zz42⟩, ⟨zz1⟩⟩
 case round =>
  clear H'; (try clear c1); obtain ⟨x3_1, x4_1, rfl, HA, HK1, HO_3, HB⟩ := hrel
  cases gk with
  | zero => exact absurd HA.out (by simp [impl_bitsOf.l0])
  | succ k1 =>
   have H := HA.out; clear HA; simp only [impl_bitsOf.l0] at H; by_cases c2 : 0 ≤ x4_1; rotate_left
   ·rw [if_neg c2] at H; exact absurd H (by simp)
   rw [if_pos c2] at H; have c2b0 := eq_true c2; have c2b1 : decide (0 ≤ x4_1) = true := decide_eq_true c2; clear c2; obtain ⟨ji3, hji3⟩ : ∃ j_ : Int, (shr .i64 a0 x4_1) = j_ := ⟨_, rfl⟩; (replace H : (if (ji3) > 0 then (if (Go.bits .and .i64 (ji3) 1) = 1 then (if x3_1.length < 17592186044416 then (impl_bitsOf.l0 k1 a0 (x3_1 ++ [x4_1]) (wrap64 (x4_1 + 1))) else (none)) else (impl_bitsOf.l0 k1 a0 x3_1 (wrap64 (x4_1 + 1)))) else (some x3_1)) = some r := by first | (rw [hji3] at H; exact H) | (simp only [hji3] at H ⊢; exact H)); have hji3_ : (a0 / 2 ^ min x4_1.toNat 64) = ji3 := hji3; have hji3z : x4_1 ≤ 64 → (a0 / 2 ^ x4_1.toNat) = ji3 := shr_small hji3; by_cases c4 : (ji3) > 0; rotate_left
   ·rw [if_neg c4] at H; have c4b0 : decide (0 < (ji3)) = false := decide_eq_false c4; clear c4; obtain rfl := Option.some.inj H; go_wp2; go_ret; exact ⟨_, by first | rfl | (simp [errW_none, errW_some] <;> rfl) | (simp only [← hji3]; first | rfl | (simp [errW_none, errW_some] <;> rfl)) | (simp [*, errW_none, errW_some] <;> rfl), zz19, zz1⟩
   rw [if_pos c4] at H; have c4b0 : decide (0 < (ji3)) = true := decide_eq_true c4; clear c4; have c5b0 := eq_true (of_decide_eq_true zz3 : 0 ≤ x4_1); by_cases c7 : (Go.bits .and .i64 (ji3) 1) = 1; rotate_left
   ·rw [if_neg c7] at H; have c7b0 : ((Go.bits .and .i64 (ji3) 1) == 1) = false := beq_eq_false_iff_ne.mpr c7; have c7b1 : ((Go.bits .and .i64 (ji3) 1) != 1) = true := bne_iff_ne.mpr c7; have H' := Aside0.mk H; clear H; go_wp2; go_roundg k1; (case measure => have := HK1.out; omega); case rel => exact ⟨(x3_1), (wrap64 (x4_1 + 1)), zz5, H', ⟨zz36⟩, ⟨zz19⟩, ⟨zz1⟩⟩
   rw [if_pos c7] at H; have c7b0 : ((Go.bits .and .i64 (ji3) 1) == 1) = true := beq_iff_eq.mpr c7; have c7b1 : ((Go.bits .and .i64 (ji3) 1) != 1) = false := bne_eq_false_iff_eq.mpr c7; clear c7; by_cases c8 : x3_1.length < 17592186044416; rotate_left
   ·rw [if_neg c8] at H; exact absurd H (by simp)
   rw [if_pos c8] at H; have LMc8 := Aside0.mk c8; clear c8; obtain ⟨y101, hy_⟩ : ∃ y_ : List Int, y_ = (x3_1 ++ [x4_1]) := ⟨_, rfl⟩; (replace H : (impl_bitsOf.l0 k1 a0 y101 (wrap64 (x4_1 + 1))) = some r := zzY); have Ny101 := Aside0.mk hy_; clear hy_; have H' := Aside0.mk H; clear H; (go_wp2_with (first | ((with_reducible refine gate_builtin (b := .append) (xs := #[.tmp 16, .tmp 18]) rfl ?_); at_builtin; refine Kd.R_append (Kd.int .i64) (w0 := w) w.heap.size rfl (.tmp 16) (.tmp 18) 26 3 (.int .i64 0) 8 rfl Try.underlying26 info3 rfl (by decide) (by omega) u3 x3_1 x4_1 [.int .i64 x4_1] (fun _ => True) (fun _ => False) rfl rfl ?aP (fun _ hk => hk.elim) ?aF ?aO ?aB ?aS ?aL ?_; (case aP => exact rfl); (case aB => exact zz1); (case aF => exact (fun _ _ => trivial)); (case aO => exact zz19); (case aS => exact (below_size zz1)); (case aL => have := LMc8.out; omega); intro v102 w9 ho hb hg hat; rw [← Ny101.out] at ho; have n_ := zA2 hb ho; clear HB HO_3; obtain ⟨HB, HO103⟩ := n_; clear ho hb hg hat))); go_roundg k1; (case measure => have := HK1.out; omega); case rel => exact ⟨(y101), (wrap64 (x4_1 + 1)), zz5, H', ⟨zz36⟩, ⟨zz40⟩, ⟨zz1⟩⟩
def impl_Determinant.f (k : Nat) (l0 : List (List Int)) : Option (Int) := (impl_MatrixOk.f k l0).bind fun t101 => (if t101 = true then ((impl_bitsOf.f k (wrap64 ((shl .i64 1 (l0.length : Int)) - 1))).bind fun t102 => ((impl_determinant.f k l0 t102 (wrap64 ((shl .i64 1 (l0.length : Int)) - 1))).bind fun t105 => (some t105))) else (some 0))
theorem impl_Determinant.mono : ∀ a0 k, LeO (impl_Determinant.f k a0) (impl_Determinant.f (k + 1) a0) := by
 intro a0 k; unfold impl_Determinant.f; repeat' first | (with_reducible apply impl_MatrixOk.mono) | (with_reducible apply impl_bitsOf.mono) | (with_reducible apply impl_determinant.mono) | (with_reducible exact LeO.refl _) | (with_reducible exact LeO.none _) | (with_reducible refine LeO.ite ?_ ?_) | (with_reducible refine LeO.bind ?_ (fun _ => ?_)) | apply impl_MatrixOk.mono | apply impl_bitsOf.mono | apply impl_determinant.mono | exact LeO.none _ | refine LeO.ite ?_ ?_ | refine LeO.bind ?_ (fun _ => ?_)
def impl_Determinant.T3 : Bool × List (List Nat × List Nat) := (true, [([], []), ([], []), ([1], [1]), ([2], [2]), ([3], [3]), ([4], [4]), ([], []), ([6], [6]), ([7], [7]), ([8], [8]), ([0, 5, 9, 5], [0, 5, 9]), ([10, 10, 0, 1, 2, 3, 4, 5, 6, 7, 8, 9, 10], [10])])
def impl_Determinant.B3 : List Nat := [0, 0, 2, 6, 14, 30, 0, 64, 192, 448, 1023, 2047]
theorem impl_Determinant.tab3 : rtab .any (opsOf Try.f120 3) = impl_Determinant.T3 := by kernel_rfl
theorem impl_Determinant.bits3 : waitsOk impl_Determinant.T3.2 impl_Determinant.B3 = true := by kernel_rfl
set_option maxHeartbeats 8000000 in
set_option maxRecDepth 100000 in
theorem impl_Determinant.calls (k : Nat) (A0 : Option Addr) (c0 : Nat) (l0 : List (List Int)) (r : Int) (w : World) (hr0 : Kd.C (Kd.slice 3 (Kd.int .i64)) w A0 l0.length l0) (hc0 : l0.length ≤ c0) (h : impl_Determinant.f k l0 = some r) :
  Calls Try.prog 120 #[.slice A0 l0.length c0] w fun e w' => e = .returned (.int .i64 r) ∧ Below w.heap.size w w' := by
 have HR0 := Aside0.mk hr0; have HC0 := Aside0.mk hc0; clear hr0 hc0; have HB := Aside0.mk (Below.refl w.heap.size w); have H : ((impl_MatrixOk.f k l0).bind fun t101 => (if t101 = true then ((impl_bitsOf.f k (wrap64 ((shl .i64 1 (l0.length : Int)) - 1))).bind fun t102 => ((impl_determinant.f k l0 t102 (wrap64 ((shl .i64 1 (l0.length : Int)) - 1))).bind fun t105 => (some t105))) else (some 0))) = some r := h; clear h; replace H := Option.bind_eq_some_iff.mp H; obtain ⟨t101, A20, H⟩ := H; (try dsimp only at H); have A2 := Aside0.mk A20; clear A20; by_cases c3 : t101 = true; rotate_left
 ·replace c3 := Bool.eq_false_iff.mpr c3; subst c3; rw [if_neg (show ¬ (false = true) by decide)] at H; obtain rfl := Option.some.inj H; go_enter Try.func120, Try.ntmps120; (go_wp2_with (first | ((with_reducible refine gate_callee (f := 143) rfl ?_); refine goesL_ (some 4) rfl rfl Try.func143 (by kernel_rfl) rfl #[.slice A0 l0.length c0] rfl zz4 ?_; (with_reducible refine (impl_MatrixOk.calls k _ _ l0 false _ ?side1 ?side2 A2.out).mono ?_); (case side1 => exact zz25); (case side2 => exact HC0.out); rintro e w' ⟨rfl, ⟨nd, rfl⟩⟩; refine ⟨_, rfl, ?_⟩))); go_ret; exact ⟨zz7, zz1⟩
 subst c3; rw [if_pos rfl] at H; obtain ⟨ji4, hji4⟩ : ∃ j_ : Int, (shl .i64 1 (l0.length : Int)) = j_ := ⟨_, rfl⟩; (replace H : ((impl_bitsOf.f k (wrap64 ((ji4) - 1))).bind fun t102 => ((impl_determinant.f k l0 t102 (wrap64 ((ji4) - 1))).bind fun t105 => (some t105))) = some r := by first | (rw [hji4] at H; exact H) | (simp only [hji4] at H ⊢; exact H)); (try rw [hji4] at A2); have hji4_ : (IntKind.i64.wrap (1 * 2 ^ min (l0.length : Int).toNat 64)) = ji4 := hji4; have hji4z : (l0.length : Int) ≤ 64 → (IntKind.i64.wrap (1 * 2 ^ (l0.length : Int).toNat)) = ji4 := shl_small hji4; have hji4p : (IntKind.i64.wrap (1 * 2 ^ min l0.length 64)) = ji4 := hji4_; have hji4q : (l0.length : Int) ≤ 64 → (IntKind.i64.wrap (1 * 2 ^ l0.length)) = ji4 := hji4z; (have hji4r : (IntKind.i64.wrap (2 ^ min l0.length 64)) = ji4 := by have h_ := hji4p; rw [Int.one_mul] at h_; exact h_); (have hji4s : (l0.length : Int) ≤ 64 → (IntKind.i64.wrap (2 ^ l0.length)) = ji4 := fun hle_ => by have h_ := hji4q hle_; rw [Int.one_mul] at h_; exact h_); (have hji4u : (IntKind.i64.wrap (2 ^ min (l0.length : Int).toNat 64)) = ji4 := by have h_ := hji4_; rw [Int.one_mul] at h_; exact h_); (have hji4v : (l0.length : Int) ≤ 64 → (IntKind.i64.wrap (2 ^ (l0.length : Int).toNat)) = ji4 := fun hle_ => by have h_ := hji4z hle_; rw [Int.one_mul] at h_; exact h_); have hji4y : (wrap64 (1 * 2 ^ min (l0.length : Int).toNat 64)) = ji4 := (i64_w _).symm.trans hji4_; (have hji4x : (l0.length : Int) ≤ 64 → (wrap64 (1 * 2 ^ (l0.length : Int).toNat)) = ji4 := fun h_ => (i64_w _).symm.trans (hji4z h_)); replace H := Option.bind_eq_some_iff.mp H; obtain ⟨t102, A50, H⟩ := H; (try dsimp only at H); have A5 := Aside0.mk A50; clear A50; replace H := Option.bind_eq_some_iff.mp H; obtain ⟨t105, A70, H⟩ := H; (try dsimp only at H); have A7 := Aside0.mk A70; clear A70; obtain rfl := Option.some.inj H; go_enter Try.func120, Try.ntmps120; (try go_wp2_with (first | ((with_reducible refine gate_callee (f := 143) rfl ?_); refine goesL_ (some 4) rfl rfl Try.func143 (by kernel_rfl) rfl #[.slice A0 l0.length c0] rfl zz4 ?_; (with_reducible refine (impl_MatrixOk.calls k _ _ l0 true _ ?side1 ?side2 A2.out).mono ?_); (case side1 => exact zz25); (case side2 => exact HC0.out); rintro e w' ⟨rfl, ⟨nd, rfl⟩⟩; refine ⟨_, rfl, ?_⟩))); replace HB := Aside0.mk (below_drew1 (pw_below_drewN HB.out nd)); refine start_ (n := 12) (S := fun w' => True) (ds := []) (zM 12 0) (by kernel_rfl) rfl rfl trivial (fun hHeld => ?_); refine with_tabW impl_Determinant.tab3 impl_Determinant.bits3 (fun HT_ HW_ => ?_); generalize (w.drewN nd).drew = w8 at HB hHeld ⊢; refine zQ 0 6 (zM 12 1) ?_
 refine zQ 1 7 (zM 12 3) ?_
 refine zQ 2 8 (zM 12 7) ?_
 refine zQ 3 9 (zM 12 15) ?_
 refine zQ 4 10 (zM 12 31) ?_
 refine zQ 6 12 (zM 12 95) ?_
 refine zQ 7 13 (zM 12 223) ?_
 refine zQ 8 14 (zM 12 479) ?_
 refine zQ 9 15 (zM 12 991) ?_
 refine one_ (i := 5) (N := some 11) (zM 12 1023) rfl rfl (one_of HT_.out (by kernel_rfl)) (by decide) (fun K hK => ?_); refine goes_ Try.func145 (by kernel_rfl) rfl #[.int .i64 (wrap64 ((ji4) - 1))] (by rfl) rfl rfl (by (try simp only [List.map_toArray, List.map_cons, List.map_nil]); first | done | (simp only [hji4]; rfl) | rfl | (simp only [List.length_drop, List.length_take]; rfl)) ?_; (with_reducible refine (impl_bitsOf.calls k (wrap64 ((ji4) - 1)) t102 _ A5.out).mono ?_); rintro e w9 ⟨v103, rfl, ho0, hb⟩; refine ⟨_, rfl, ?_⟩; have n_ := zA2 (Kd.R_lower ho0 (below_size zz1)) (below_step zz1 hb); clear HB; obtain ⟨HO104, HB⟩ := n_; clear ho0 hb; obtain ⟨Ao10, co10, eo10⟩ := Kd.R_slice HO104.out; (first | subst eo10 | (injection eo10 with f1_ f2_ f3_; have f4_ := f1_.symm; have f5_ := f3_.symm; clear f1_ f2_ f3_; subst f4_; subst f5_)); refine hK.out _ _ trivial (fun hHeld => ?_); clear hK K; refine norm_ (a' := ?_) ?_ ?_; rotate_left
 ·show Act.put _ (some 11) _ = _; exact zzS
 refine one_ (i := 10) (N := some 16) (zM 12 2047) rfl rfl (one_of HT_.out (by kernel_rfl)) (by decide) (fun K hK => ?_); refine goes_ Try.func144 (by kernel_rfl) rfl #[.slice A0 l0.length c0, .slice Ao10 t102.length co10, .int .i64 (wrap64 ((ji4) - 1))] (by rfl) rfl rfl (by (try simp only [List.map_toArray, List.map_cons, List.map_nil]); first | done | (simp only [hji4]; rfl) | rfl | (simp only [List.length_drop, List.length_take]; rfl)) ?_; (with_reducible refine (impl_determinant.calls k _ _ l0 _ _ t102 (wrap64 ((ji4) - 1)) t105 _ ?side1 ?side2 ?side3 ?side4 A7.out).mono ?_); (case side1 => exact zz45); (case side2 => exact HC0.out); (case side3 => repeat (first | exact (Kd.R_reads' HO104.out).2.2 | (with_reducible refine Kd.C_alloc ?_ _) | (with_reducible refine Kd.C_drewN ?_ _) | (with_reducible refine Kd.C_drew ?_))); (case side4 => exact (Kd.R_reads' HO104.out).2.1); rintro e w11 ⟨rfl, hb⟩; refine ⟨_, rfl, ?_⟩; have n_ := zA2 (Kd.R_below zz43 hb) (below_step zz1 hb); clear HO104 HB; obtain ⟨HO104, HB⟩ := n_; clear hb; refine hK.out _ _ trivial (fun hHeld => ?_); clear hK K; refine norm_ (a' := ?_) ?_ ?_; rotate_left
 ·show Act.put _ (some 16) _ = _; exact zzS
 refine zQ 11 2 (zM 12 4095) ?_
 refine done_ (done_of HT_.out (by kernel_rfl)) ?_; (try go_wp2); go_ret; exact ⟨by first | rfl | (simp [errW_none, errW_some] <;> rfl) | (simp only [← hji4]; first | rfl | (simp [errW_none, errW_some] <;> rfl)) | (simp [*, errW_none, errW_some] <;> rfl), zz1⟩
mutual
def impl_Multiplicity.j0 : Nat → Int → Int → Bool → Int → List (S57) → Option (Int)
 | 0, _, _, _, _, _ => none
 | k + 1, x1, x2, x26, x102000, x102001 => if x26 = true then (some 0) else (impl_Multiplicity.l0 k x1 x2 0 x102001 (x102001.length : Int) 0)
def impl_Multiplicity.l0 : Nat → Int → Int → Int → List (S57) → Int → Int → Option (Int)
 | 0, _, _, _, _, _, _ => none
 | k + 1, x1, x2, x7, x28, x29, x30 => if x30 < x29 then (if 0 ≤ x30 then (if x30 < (x28.length : Int) then (if ((rd_T57 x28 x30).f0) = (mn x1 x2) then (if ((rd_T57 x28 x30).f1) = (mx x1 x2) then (impl_Multiplicity.l0 k x1 x2 (wrap64 (x7 + 1)) x28 x29 (wrap64 (x30 + 1))) else (impl_Multiplicity.l0 k x1 x2 x7 x28 x29 (wrap64 (x30 + 1)))) else (impl_Multiplicity.l0 k x1 x2 x7 x28 x29 (wrap64 (x30 + 1)))) else (none)) else (none)) else (some x7)
end
def impl_Multiplicity.f (k : Nat) (a0_0 : Int) (l0_1 : List (S57)) (a1 : Int) (a2 : Int) : Option (Int) := if (mn a1 a2) < 0 then (impl_Multiplicity.j0 k a1 a2 true a0_0 l0_1) else (if (mx a1 a2) ≥ a0_0 then (impl_Multiplicity.j0 k a1 a2 true a0_0 l0_1) else (impl_Multiplicity.j0 k a1 a2 (a1 == a2) a0_0 l0_1))
theorem impl_Multiplicity.mono_l : ∀ k, (∀ y0 y1 y2 y3 y4, LeO (impl_Multiplicity.j0 k y0 y1 y2 y3 y4) (impl_Multiplicity.j0 (k + 1) y0 y1 y2 y3 y4)) ∧ (∀ y0 y1 y2 y3 y4 y5, LeO (impl_Multiplicity.l0 k y0 y1 y2 y3 y4 y5) (impl_Multiplicity.l0 (k + 1) y0 y1 y2 y3 y4 y5))
 | 0 => ⟨fun _ _ _ _ _ r h => by simp [impl_Multiplicity.j0] at h, fun _ _ _ _ _ _ r h => by simp [impl_Multiplicity.l0] at h⟩
 | k + 1 => by
  obtain ⟨ih0, ih1⟩ := impl_Multiplicity.mono_l k
  refine ⟨?_, ?_⟩
  ·intro y0 y1 y2 y3 y4
   unfold impl_Multiplicity.j0
   exact zm1
  ·intro y0 y1 y2 y3 y4 y5
   unfold impl_Multiplicity.l0
   exact zm1
theorem impl_Multiplicity.mono : ∀ a0 a1 a2 a3 k, LeO (impl_Multiplicity.f k a0 a1 a2 a3) (impl_Multiplicity.f (k + 1) a0 a1 a2 a3) := by
 intro a0 a1 a2 a3 k; obtain ⟨ih0, ih1⟩ := impl_Multiplicity.mono_l k; unfold impl_Multiplicity.f; exact zm1
set_option maxHeartbeats 8000000 in
set_option maxRecDepth 100000 in
theorem impl_Multiplicity.calls (k : Nat) (a0_0 : Int) (A0_1 : Option Addr) (c0_1 : Nat) (l0_1 : List (S57)) (a1 : Int) (a2 : Int) (r : Int) (w : World) (hr0_1 : Kd.C k57 w A0_1 l0_1.length l0_1) (hc0_1 : l0_1.length ≤ c0_1) (h : impl_Multiplicity.f k a0_0 l0_1 a1 a2 = some r) :
  Calls Try.prog 123 #[.agg #[.int .i64 a0_0, .slice A0_1 l0_1.length c0_1], .int .i64 a1, .int .i64 a2] w fun e w' => e = .returned (.int .i64 r) ∧ Below w.heap.size w w' := by
 have hu25 := Try.underlying25; have hu57 := Try.underlying57; have HR0_1 := Aside0.mk hr0_1; have HC0_1 := Aside0.mk hc0_1; clear hr0_1 hc0_1; have HB := Aside0.mk (Below.refl w.heap.size w); have H : (if (mn a1 a2) < 0 then (impl_Multiplicity.j0 k a1 a2 true a0_0 l0_1) else (if (mx a1 a2) ≥ a0_0 then (impl_Multiplicity.j0 k a1 a2 true a0_0 l0_1) else (impl_Multiplicity.j0 k a1 a2 (a1 == a2) a0_0 l0_1))) = some r := h; clear h; have HC4 := Aside0.mk H; clear H; go_enter Try.func123, Try.ntmps123; (go_upto_region 1 with (first | ((with_reducible refine gate_dst (N := 3) rfl ?_); (try (refine gate_guard (by rfl) ?_; dsimp only)); refine box_event ?hg (N := 3) ?hd (cs := #[.int .i64 a0_0, .slice A0_1 l0_1.length c0_1]) (t := 25) ?hr ?_; (case hd => rfl); (case hg => rfl); (case hr => exact zz9); intro gb101 hg w5 hbox hb; have n_ := zA4 (below_step zz1 hb) hbox (zz10 : w.heap.size ≤ gb101) (zz10 : w.heap.size ≤ gb101); clear HB; obtain ⟨HB, BK101, GW101, GE101⟩ := n_; clear hb hbox hg))); (try simp only [Act.put, List.setIfInBounds_toArray, List.set_cons_zero, List.set_cons_succ]); go_cut [26] (fun v26 wc => ∃ (kq : Nat) (x26_3 : Bool), v26 = .bool x26_3 ∧ Aside0 (impl_Multiplicity.j0 kq a1 a2 x26_3 a0_0 l0_1 = some r) ∧ Aside0 (kq ≤ k) ∧ Aside0 (wc.heap[gb101]? = some (.cells #[.int .i64 a0_0, (.slice A0_1 l0_1.length c0_1)] 25 (0, 0))) ∧ Aside0 (Below w.heap.size w wc))
 case first =>
  have H := HC4.out; clear HC4; obtain ⟨ji6, hji6⟩ : ∃ j_ : Int, (mn a1 a2) = j_ := ⟨_, rfl⟩; (replace H : (if (ji6) < 0 then (impl_Multiplicity.j0 k a1 a2 true a0_0 l0_1) else (if (mx a1 a2) ≥ a0_0 then (impl_Multiplicity.j0 k a1 a2 true a0_0 l0_1) else (impl_Multiplicity.j0 k a1 a2 (a1 == a2) a0_0 l0_1))) = some r := by first | (rw [hji6] at H; exact H) | (simp only [hji6] at H ⊢; exact H)); have hji6_ : (if a2 < a1 then a2 else a1) = ji6 := hji6; by_cases c7 : (ji6) < 0
  ·rw [if_pos c7] at H; have c7b0 := decide_eq_true c7; clear c7; (first | rw [c7b0] | (simp only [i64_w, i32_w]; rw [c7b0]) | skip); have H' := Aside0.mk H; clear H; go_wp2; (go_meet); case rel => exact ⟨_, (true), zz5, H', ⟨by first | omega | exact Nat.le_refl _⟩, ⟨zz2⟩, ⟨zz0⟩⟩
  rw [if_neg c7] at H; have c7b0 := decide_eq_false c7; clear c7; (first | rw [c7b0] | (simp only [i64_w, i32_w]; rw [c7b0]) | skip); obtain ⟨ji8, hji8⟩ : ∃ j_ : Int, (mx a1 a2) = j_ := ⟨_, rfl⟩; (replace H : (if (ji8) ≥ a0_0 then (impl_Multiplicity.j0 k a1 a2 true a0_0 l0_1) else (impl_Multiplicity.j0 k a1 a2 (a1 == a2) a0_0 l0_1)) = some r := by first | (rw [hji8] at H; exact H) | (simp only [hji8] at H ⊢; exact H)); have hji8_ : (if a1 < a2 then a2 else a1) = ji8 := hji8; by_cases c9 : (ji8) ≥ a0_0
  ·rw [if_pos c9] at H; have c9b0 : decide (a0_0 ≤ (ji8)) = true := decide_eq_true c9; clear c9; have H' := Aside0.mk H; clear H; have hcz10_0 := zC20 BK101; have hcz10_1 := zC21 BK101; have hfz10_0 := blk_frozen BK101.out 0; have hfz10_1 := blk_frozen BK101.out 1; go_wp2; (go_meet); case rel => exact ⟨_, (true), zz5, H', ⟨by first | omega | exact Nat.le_refl _⟩, ⟨zz2⟩, ⟨zz0⟩⟩
  rw [if_neg c9] at H; have c9b0 : decide (a0_0 ≤ (ji8)) = false := decide_eq_false c9; clear c9; have H' := Aside0.mk H; clear H; have hcz11_0 := zC20 BK101; have hcz11_1 := zC21 BK101; have hfz11_0 := blk_frozen BK101.out 0; have hfz11_1 := blk_frozen BK101.out 1; go_wp2; (go_meet); case rel => exact ⟨_, ((a1 == a2)), zz5, H', ⟨by first | omega | exact Nat.le_refl _⟩, ⟨zz2⟩, ⟨zz0⟩⟩
 case rest =>
  clear HC4; (try clear c1); (try clear p2); (try clear c7); (try clear c7b0); (try clear c9); (try clear c9b0); (try clear hcz10_0); (try clear hcz10_1); (try clear hcz11_0); (try clear hcz11_1); (try clear hfz10_0); (try clear hfz10_1); (try clear hfz11_0); (try clear hfz11_1); obtain ⟨kq, x26_3, rfl, HA, HJ3, BK101, HB⟩ := hcut
  cases kq with
  | zero => exact absurd HA.out (by simp [impl_Multiplicity.j0])
  | succ kj3 =>
   have H := HA.out; clear HA; simp only [impl_Multiplicity.j0] at H; by_cases c12 : x26_3 = true
   ·subst c12; rw [if_pos rfl] at H; obtain rfl := Option.some.inj H; go_wp2; go_ret; exact ⟨zz7, zz0⟩
   replace c12 := Bool.eq_false_iff.mpr c12; subst c12; rw [if_neg (show ¬ (false = true) by decide)] at H; have H' := Aside0.mk H; clear H; have hcz13_0 := zC20 BK101; have hcz13_1 := zC21 BK101; have hfz13_0 := blk_frozen BK101.out 0; have hfz13_1 := blk_frozen BK101.out 1; go_wp2; (go_loopg [7, 30] kj3 (fun kq v7 v30 w' => ∃ (x7_2 : Int) (x30_2 : Int), v7 = .int .i64 x7_2 ∧ v30 = .int .i64 x30_2 ∧ Aside0 (impl_Multiplicity.l0 kq a1 a2 x7_2 l0_1 (l0_1.length : Int) x30_2 = some r) ∧ Aside0 (kq ≤ kj3) ∧ Aside0 (w'.heap[gb101]? = some (.cells #[.int .i64 a0_0, (.slice A0_1 l0_1.length c0_1)] 25 (0, 0))) ∧ Aside0 (Below w.heap.size w w'))); case atStart => exact ⟨(0), (0), zz5, zz5, H', ⟨Nat.le_refl _⟩, ⟨zz2⟩, ⟨zz0⟩⟩
   case round =>
    clear H'; (try clear c1); (try clear p2); (try clear c7); (try clear c7b0); (try clear c9); (try clear c9b0); (try clear c12); (try clear hcz10_0); (try clear hcz10_1); (try clear hcz11_0); (try clear hcz11_1); (try clear hcz13_0); (try clear hcz13_1); (try clear hfz10_0); (try clear hfz10_1); (try clear hfz11_0); (try clear hfz11_1); (try clear hfz13_0); (try clear hfz13_1); (try clear p2); obtain ⟨x7_2, x30_2, rfl, rfl, HA, HK2, BK101, HB⟩ := hrel
    cases gk with
    | zero => exact absurd HA.out (by simp [impl_Multiplicity.l0])
    | succ k2 =>
     have H := HA.out; clear HA; simp only [impl_Multiplicity.l0] at H; by_cases c14 : x30_2 < (l0_1.length : Int); rotate_left
     ·rw [if_neg c14] at H; have c14b0 := decide_eq_false c14; clear c14; obtain rfl := Option.some.inj H; go_wp2; go_ret; exact ⟨zz7, zz0⟩
     rw [if_pos c14] at H; have c14b0 := decide_eq_true c14; clear c14; by_cases c15 : 0 ≤ x30_2; rotate_left
     ·rw [if_neg c15] at H; exact absurd H (by simp)
     rw [if_pos c15] at H; have c15b0 := decide_eq_true c15; clear c15; by_cases c16 : x30_2 < (l0_1.length : Int); rotate_left
     ·rw [if_neg c16] at H; exact absurd H (by simp)
     rw [if_pos c16] at H; have c16b0 := decide_eq_true c16; clear c16; obtain ⟨ji17, hji17⟩ : ∃ j_ : Int, (mn a1 a2) = j_ := ⟨_, rfl⟩; (replace H : (if ((rd_T57 l0_1 x30_2).f0) = (ji17) then (if ((rd_T57 l0_1 x30_2).f1) = (mx a1 a2) then (impl_Multiplicity.l0 k2 a1 a2 (wrap64 (x7_2 + 1)) l0_1 (l0_1.length : Int) (wrap64 (x30_2 + 1))) else (impl_Multiplicity.l0 k2 a1 a2 x7_2 l0_1 (l0_1.length : Int) (wrap64 (x30_2 + 1)))) else (impl_Multiplicity.l0 k2 a1 a2 x7_2 l0_1 (l0_1.length : Int) (wrap64 (x30_2 + 1)))) = some r := by first | (rw [hji17] at H; exact H) | (simp only [hji17] at H ⊢; exact H)); have hji17_ : (if a2 < a1 then a2 else a1) = ji17 := hji17; by_cases c18 : ((rd_T57 l0_1 x30_2).f0) = (ji17); rotate_left
     ·rw [if_neg c18] at H; have c18b0 : (((rd_T57 l0_1 x30_2).f0) == (ji17)) = false := beq_eq_false_iff_ne.mpr c18; have c18b1 : (((rd_T57 l0_1 x30_2).f0) != (ji17)) = true := bne_iff_ne.mpr c18; have H' := Aside0.mk H; clear H; have p102 : 0 ≤ (x30_2 : Int) := of_decide_eq_true zz3; have q102 : x30_2 < (l0_1.length : Int) := of_decide_eq_true zz3; obtain ⟨ad102, e102, hx102_0, hx102_1⟩ := at_T57 HR0_1.out x30_2 p102 q102; cases e102; replace hx102_0 := (HB.out.cell (World.block_lt_of_cell? w _ hx102_0)).trans hx102_0; replace hx102_1 := (HB.out.cell (World.block_lt_of_cell? w _ hx102_1)).trans hx102_1; replace p102 := eq_true p102; replace q102 := eq_true q102; (go_wp2_with (first | ((with_reducible refine gate_dst (N := 9) rfl ?_); (try (refine gate_guard (by rfl) ?_; dsimp only)); refine box_event ?hg (N := 9) ?hd (cs := #[.int .i64 0, .int .i64 0]) (t := 57) ?hr ?_; (case hd => rfl); (case hg => rfl); (case hr => exact zz9); intro gb103 hg w27 hbox hb; have n_ := zA7 (blk_below (g := gb101) (o := .cells #[.int .i64 a0_0, .slice (some ad102) l0_1.length c0_1] 25 (0, 0)) zz2 hb) (below_step zz0 hb) hbox (zz13 : w.heap.size ≤ gb103) (zz13 : w.heap.size ≤ gb103) (zz37 : gb101 ≠ gb103) (zz38 : gb103 ≠ gb101); clear BK101 HB; obtain ⟨BK101, HB, BK103, GW103, GE103, NB101_103, NB103_101⟩ := n_; clear hb hbox hg; have hnb28 := NB103_101.out; have hnc28 := NB101_103.out; have hcz29_0 := zC20 BK103; have hcz29_1 := zC21 BK103; have hfz29_0 := blk_frozen BK103.out 0; have hfz29_1 := blk_frozen BK103.out 1))); go_roundg k2; (case measure => have := HJ3.out; have := HK2.out; omega); case rel => exact ⟨(x7_2), (wrap64 (x30_2 + 1)), zz5, zz5, H', ⟨by have := HJ3.out; have := HK2.out; omega⟩, ⟨zz15⟩, ⟨zz27⟩⟩
     rw [if_pos c18] at H; have c18b0 : (((rd_T57 l0_1 x30_2).f0) == (ji17)) = true := beq_iff_eq.mpr c18; have c18b1 : (((rd_T57 l0_1 x30_2).f0) != (ji17)) = false := bne_eq_false_iff_eq.mpr c18; clear c18; obtain ⟨ji19, hji19⟩ : ∃ j_ : Int, (mx a1 a2) = j_ := ⟨_, rfl⟩; (replace H : (if ((rd_T57 l0_1 x30_2).f1) = (ji19) then (impl_Multiplicity.l0 k2 a1 a2 (wrap64 (x7_2 + 1)) l0_1 (l0_1.length : Int) (wrap64 (x30_2 + 1))) else (impl_Multiplicity.l0 k2 a1 a2 x7_2 l0_1 (l0_1.length : Int) (wrap64 (x30_2 + 1)))) = some r := by first | (rw [hji19] at H; exact H) | (simp only [hji19] at H ⊢; exact H)); have hji19_ : (if a1 < a2 then a2 else a1) = ji19 := hji19; by_cases c20 : ((rd_T57 l0_1 x30_2).f1) = (ji19); rotate_left
     ·rw [if_neg c20] at H; have c20b0 : (((rd_T57 l0_1 x30_2).f1) == (ji19)) = false := beq_eq_false_iff_ne.mpr c20; have c20b1 : (((rd_T57 l0_1 x30_2).f1) != (ji19)) = true := bne_iff_ne.mpr c20; have H' := Aside0.mk H; clear H; have p102 : 0 ≤ (x30_2 : Int) := of_decide_eq_true zz3; have q102 : x30_2 < (l0_1.length : Int) := of_decide_eq_true zz3; obtain ⟨ad102, e102, hx102_0, hx102_1⟩ := at_T57 HR0_1.out x30_2 p102 q102; cases e102; replace hx102_0 := (HB.out.cell (World.block_lt_of_cell? w _ hx102_0)).trans hx102_0; replace hx102_1 := (HB.out.cell (World.block_lt_of_cell? w _ hx102_1)).trans hx102_1; replace p102 := eq_true p102; replace q102 := eq_true q102; (go_wp2_with (first | ((with_reducible refine gate_dst (N := 9) rfl ?_); (try (refine gate_guard (by rfl) ?_; dsimp only)); refine box_event ?hg (N := 9) ?hd (cs := #[.int .i64 0, .int .i64 0]) (t := 57) ?hr ?_; (case hd => rfl); (case hg => rfl); (case hr => exact zz9); intro gb103 hg w24 hbox hb; have n_ := zA7 (blk_below (g := gb101) (o := .cells #[.int .i64 a0_0, .slice (some ad102) l0_1.length c0_1] 25 (0, 0)) zz2 hb) (below_step zz0 hb) hbox (zz13 : w.heap.size ≤ gb103) (zz13 : w.heap.size ≤ gb103) (zz37 : gb101 ≠ gb103) (zz38 : gb103 ≠ gb101); clear BK101 HB; obtain ⟨BK101, HB, BK103, GW103, GE103, NB101_103, NB103_101⟩ := n_; clear hb hbox hg; have hnb25 := NB103_101.out; have hnc25 := NB101_103.out; have hcz26_0 := zC20 BK103; have hcz26_1 := zC21 BK103; have hfz26_0 := blk_frozen BK103.out 0; have hfz26_1 := blk_frozen BK103.out 1))); go_roundg k2; (case measure => have := HJ3.out; have := HK2.out; omega); case rel => exact ⟨(x7_2), (wrap64 (x30_2 + 1)), zz5, zz5, H', ⟨by have := HJ3.out; have := HK2.out; omega⟩, ⟨zz15⟩, ⟨zz27⟩⟩
     rw [if_pos c20] at H; have c20b0 : (((rd_T57 l0_1 x30_2).f1) == (ji19)) = true := beq_iff_eq.mpr c20; have c20b1 : (((rd_T57 l0_1 x30_2).f1) != (ji19)) = false := bne_eq_false_iff_eq.mpr c20; clear c20; have H' := Aside0.mk H; clear H; have p102 : 0 ≤ (x30_2 : Int) := of_decide_eq_true zz3; have q102 : x30_2 < (l0_1.length : Int) := of_decide_eq_true zz3; obtain ⟨ad102, e102, hx102_0, hx102_1⟩ := at_T57 HR0_1.out x30_2 p102 q102; cases e102; replace hx102_0 := (HB.out.cell (World.block_lt_of_cell? w _ hx102_0)).trans hx102_0; replace hx102_1 := (HB.out.cell (World.block_lt_of_cell? w _ hx102_1)).trans hx102_1; replace p102 := eq_true p102; replace q102 := eq_true q102; (go_wp2_with (first | ((with_reducible refine gate_dst (N := 9) rfl ?_); (try (refine gate_guard (by rfl) ?_; dsimp only)); refine box_event ?hg (N := 9) ?hd (cs := #[.int .i64 0, .int .i64 0]) (t := 57) ?hr ?_; (case hd => rfl); (case hg => rfl); (case hr => exact zz9); intro gb103 hg w21 hbox hb; have n_ := zA7 (blk_below (g := gb101) (o := .cells #[.int .i64 a0_0, .slice (some ad102) l0_1.length c0_1] 25 (0, 0)) zz2 hb) (below_step zz0 hb) hbox (zz13 : w.heap.size ≤ gb103) (zz13 : w.heap.size ≤ gb103) (zz37 : gb101 ≠ gb103) (zz38 : gb103 ≠ gb101); clear BK101 HB; obtain ⟨BK101, HB, BK103, GW103, GE103, NB101_103, NB103_101⟩ := n_; clear hb hbox hg; have hnb22 := NB103_101.out; have hnc22 := NB101_103.out; have hcz23_0 := zC20 BK103; have hcz23_1 := zC21 BK103; have hfz23_0 := blk_frozen BK103.out 0; have hfz23_1 := blk_frozen BK103.out 1))); go_roundg k2; (case measure => have := HJ3.out; have := HK2.out; omega); case rel => exact ⟨(wrap64 (x7_2 + 1)), (wrap64 (x30_2 + 1)), zz5, zz5, H', ⟨by have := HJ3.out; have := HK2.out; omega⟩, ⟨zz15⟩, ⟨zz27⟩⟩
end Go.Proofs.Ytnbljcgdgblgoaa.P
end

section
namespace Go.Proofs.Ytnbljcgdgblgoaa.P
open Go.RowKit Go.Proofs.YtnbljcgdgblgoaaW.PrintWords Go.Proofs.YtnbljcgdgblgoaaW.PrintLast Go.Proofs.YtnbljcgdgblgoaaW.PrintMore
attribute [local go_sem] max2_int min2_int max_two min_two max_three min_three max_four min_four
set_option linter.unusedVariables false
set_option linter.unusedSimpArgs false
mutual
def impl_Valence.j0 : Nat → Int → Bool → Int → List (S57) → Option (Int)
 | 0, _, _, _, _ => none
 | k + 1, x1, x15, x102000, x102001 => if x15 = true then (some 0) else (impl_Valence.l0 k x1 0 x102001 (x102001.length : Int) 0)
def impl_Valence.l0 : Nat → Int → Int → List (S57) → Int → Int → Option (Int)
 | 0, _, _, _, _, _ => none
 | k + 1, x1, x5, x17, x18, x19 => if x19 < x18 then (if 0 ≤ x19 then (if x19 < (x17.length : Int) then (if ((rd_T57 x17 x19).f0) = x1 then (impl_Valence.l0 k x1 (wrap64 (x5 + 1)) x17 x18 (wrap64 (x19 + 1))) else (if ((rd_T57 x17 x19).f1) = x1 then (impl_Valence.l0 k x1 (wrap64 (x5 + 1)) x17 x18 (wrap64 (x19 + 1))) else (impl_Valence.l0 k x1 x5 x17 x18 (wrap64 (x19 + 1))))) else (none)) else (none)) else (some x5)
end
def impl_Valence.f (k : Nat) (a0_0 : Int) (l0_1 : List (S57)) (a1 : Int) : Option (Int) := if a1 < 0 then (impl_Valence.j0 k a1 true a0_0 l0_1) else (impl_Valence.j0 k a1 (decide (a1 ≥ a0_0)) a0_0 l0_1)
theorem impl_Valence.mono_l : ∀ k, (∀ y0 y1 y2 y3, LeO (impl_Valence.j0 k y0 y1 y2 y3) (impl_Valence.j0 (k + 1) y0 y1 y2 y3)) ∧ (∀ y0 y1 y2 y3 y4, LeO (impl_Valence.l0 k y0 y1 y2 y3 y4) (impl_Valence.l0 (k + 1) y0 y1 y2 y3 y4))
 | 0 => ⟨fun _ _ _ _ r h => by simp [impl_Valence.j0] at h, fun _ _ _ _ _ r h => by simp [impl_Valence.l0] at h⟩
 | k + 1 => by
  obtain ⟨ih0, ih1⟩ := impl_Valence.mono_l k
  refine ⟨?_, ?_⟩
  ·intro y0 y1 y2 y3
   unfold impl_Valence.j0
   exact zm1
  ·intro y0 y1 y2 y3 y4
   unfold impl_Valence.l0
   exact zm1
theorem impl_Valence.mono : ∀ a0 a1 a2 k, LeO (impl_Valence.f k a0 a1 a2) (impl_Valence.f (k + 1) a0 a1 a2) := by
 intro a0 a1 a2 k; obtain ⟨ih0, ih1⟩ := impl_Valence.mono_l k; unfold impl_Valence.f; exact zm1
set_option maxHeartbeats 8000000 in
set_option maxRecDepth 100000 in
theorem impl_Valence.calls (k : Nat) (a0_0 : Int) (A0_1 : Option Addr) (c0_1 : Nat) (l0_1 : List (S57)) (a1 : Int) (r : Int) (w : World) (hr0_1 : Kd.C k57 w A0_1 l0_1.length l0_1) (hc0_1 : l0_1.length ≤ c0_1) (h : impl_Valence.f k a0_0 l0_1 a1 = some r) :
  Calls Try.prog 75 #[.agg #[.int .i64 a0_0, .slice A0_1 l0_1.length c0_1], .int .i64 a1] w fun e w' => e = .returned (.int .i64 r) ∧ Below w.heap.size w w' := by
 have hu25 := Try.underlying25; have hu57 := Try.underlying57; have HR0_1 := Aside0.mk hr0_1; have HC0_1 := Aside0.mk hc0_1; clear hr0_1 hc0_1; have HB := Aside0.mk (Below.refl w.heap.size w); have H : (if a1 < 0 then (impl_Valence.j0 k a1 true a0_0 l0_1) else (impl_Valence.j0 k a1 (decide (a1 ≥ a0_0)) a0_0 l0_1)) = some r := h; clear h; have HC3 := Aside0.mk H; clear H; go_enter Try.func75, Try.ntmps75; (go_upto_region 1 with (first | ((with_reducible refine gate_dst (N := 2) rfl ?_); refine box_event ?hg (N := 2) ?hd (cs := #[.int .i64 a0_0, .slice A0_1 l0_1.length c0_1]) (t := 25) ?hr ?_; (case hd => rfl); (case hg => rfl); (case hr => exact zz9); intro gb101 hg w4 hbox hb; have n_ := zA4 (below_step zz1 hb) hbox (zz10 : w.heap.size ≤ gb101) (zz10 : w.heap.size ≤ gb101); clear HB; obtain ⟨HB, BK101, GW101, GE101⟩ := n_; clear hb hbox hg))); (try simp only [Act.put, List.setIfInBounds_toArray, List.set_cons_zero, List.set_cons_succ]); go_cut [15] (fun v15 wc => ∃ (kq : Nat) (x15_2 : Bool), v15 = .bool x15_2 ∧ Aside0 (impl_Valence.j0 kq a1 x15_2 a0_0 l0_1 = some r) ∧ Aside0 (kq ≤ k) ∧ Aside0 (wc.heap[gb101]? = some (.cells #[.int .i64 a0_0, (.slice A0_1 l0_1.length c0_1)] 25 (0, 0))) ∧ Aside0 (Below w.heap.size w wc))
 case first =>
  have H := HC3.out; clear HC3; by_cases c5 : a1 < 0
  ·rw [if_pos c5] at H; have c5b0 := decide_eq_true c5; clear c5; (first | rw [c5b0] | (simp only [i64_w, i32_w]; rw [c5b0]) | skip); have H' := Aside0.mk H; clear H; go_wp2; (go_meet); case rel => exact ⟨_, (true), zz5, H', ⟨by first | omega | exact Nat.le_refl _⟩, ⟨zz2⟩, ⟨zz0⟩⟩
  rw [if_neg c5] at H; have c5b0 := decide_eq_false c5; clear c5; (first | rw [c5b0] | (simp only [i64_w, i32_w]; rw [c5b0]) | skip); have H' := Aside0.mk H; clear H; have hcz6_0 := zC20 BK101; have hcz6_1 := zC21 BK101; have hfz6_0 := blk_frozen BK101.out 0; have hfz6_1 := blk_frozen BK101.out 1; go_wp2; (go_meet); case rel => exact ⟨_, (decide (a1 ≥ a0_0)), zz5, H', ⟨by first | omega | exact Nat.le_refl _⟩, ⟨zz2⟩, ⟨zz0⟩⟩
 case rest =>
  clear HC3; (try clear p2); (try clear c5); (try clear c5b0); (try clear hcz6_0); (try clear hcz6_1); (try clear hfz6_0); (try clear hfz6_1); obtain ⟨kq, x15_2, rfl, HA, HJ2, BK101, HB⟩ := hcut
  cases kq with
  | zero => exact absurd HA.out (by simp [impl_Valence.j0])
  | succ kj2 =>
   have H := HA.out; clear HA; simp only [impl_Valence.j0] at H; by_cases c7 : x15_2 = true
   ·subst c7; rw [if_pos rfl] at H; obtain rfl := Option.some.inj H; go_wp2; go_ret; exact ⟨zz7, zz0⟩
   replace c7 := Bool.eq_false_iff.mpr c7; subst c7; rw [if_neg (show ¬ (false = true) by decide)] at H; have H' := Aside0.mk H; clear H; have hcz8_0 := zC20 BK101; have hcz8_1 := zC21 BK101; have hfz8_0 := blk_frozen BK101.out 0; have hfz8_1 := blk_frozen BK101.out 1; go_wp2; (go_loopg [5, 19] kj2 (fun kq v5 v19 w' => ∃ (x5_2 : Int) (x19_2 : Int), v5 = .int .i64 x5_2 ∧ v19 = .int .i64 x19_2 ∧ Aside0 (impl_Valence.l0 kq a1 x5_2 l0_1 (l0_1.length : Int) x19_2 = some r) ∧ Aside0 (kq ≤ kj2) ∧ Aside0 (w'.heap[gb101]? = some (.cells #[.int .i64 a0_0, (.slice A0_1 l0_1.length c0_1)] 25 (0, 0))) ∧ Aside0 (Below w.heap.size w w'))); case atStart => exact ⟨(0), (0), zz5, zz5, H', ⟨Nat.le_refl _⟩, ⟨zz2⟩, ⟨zz0⟩⟩
   case round =>
    clear H'; (try clear p2); (try clear c5); (try clear c5b0); (try clear c7); (try clear hcz6_0); (try clear hcz6_1); (try clear hcz8_0); (try clear hcz8_1); (try clear hfz6_0); (try clear hfz6_1); (try clear hfz8_0); (try clear hfz8_1); (try clear p2); obtain ⟨x5_2, x19_2, rfl, rfl, HA, HK2, BK101, HB⟩ := hrel
    cases gk with
    | zero => exact absurd HA.out (by simp [impl_Valence.l0])
    | succ k2 =>
     have H := HA.out; clear HA; simp only [impl_Valence.l0] at H; by_cases c9 : x19_2 < (l0_1.length : Int); rotate_left
     ·rw [if_neg c9] at H; have c9b0 := decide_eq_false c9; clear c9; obtain rfl := Option.some.inj H; go_wp2; go_ret; exact ⟨zz7, zz0⟩
     rw [if_pos c9] at H; have c9b0 := decide_eq_true c9; clear c9; by_cases c10 : 0 ≤ x19_2; rotate_left
     ·rw [if_neg c10] at H; exact absurd H (by simp)
     rw [if_pos c10] at H; have c10b0 := decide_eq_true c10; clear c10; by_cases c11 : x19_2 < (l0_1.length : Int); rotate_left
     ·rw [if_neg c11] at H; exact absurd H (by simp)
     rw [if_pos c11] at H; have c11b0 := decide_eq_true c11; clear c11; by_cases c12 : ((rd_T57 l0_1 x19_2).f0) = a1
     ·rw [if_pos c12] at H; have c12b0 : (((rd_T57 l0_1 x19_2).f0) == a1) = true := beq_iff_eq.mpr c12; have c12b1 : (((rd_T57 l0_1 x19_2).f0) != a1) = false := bne_eq_false_iff_eq.mpr c12; clear c12; have H' := Aside0.mk H; clear H; have p102 : 0 ≤ (x19_2 : Int) := of_decide_eq_true zz3; have q102 : x19_2 < (l0_1.length : Int) := of_decide_eq_true zz3; obtain ⟨ad102, e102, hx102_0, hx102_1⟩ := at_T57 HR0_1.out x19_2 p102 q102; cases e102; replace hx102_0 := (HB.out.cell (World.block_lt_of_cell? w _ hx102_0)).trans hx102_0; replace hx102_1 := (HB.out.cell (World.block_lt_of_cell? w _ hx102_1)).trans hx102_1; replace p102 := eq_true p102; replace q102 := eq_true q102; (go_wp2_with (first | ((with_reducible refine gate_dst (N := 7) rfl ?_); refine box_event ?hg (N := 7) ?hd (cs := #[.int .i64 0, .int .i64 0]) (t := 57) ?hr ?_; (case hd => rfl); (case hg => rfl); (case hr => exact zz9); intro gb103 hg w13 hbox hb; have n_ := zA7 (blk_below (g := gb101) (o := .cells #[.int .i64 a0_0, .slice (some ad102) l0_1.length c0_1] 25 (0, 0)) zz2 hb) (below_step zz0 hb) hbox (zz13 : w.heap.size ≤ gb103) (zz13 : w.heap.size ≤ gb103) (zz37 : gb101 ≠ gb103) (zz38 : gb103 ≠ gb101); clear BK101 HB; obtain ⟨BK101, HB, BK103, GW103, GE103, NB101_103, NB103_101⟩ := n_; clear hb hbox hg; have hnb14 := NB103_101.out; have hnc14 := NB101_103.out; have hcz15_0 := zC20 BK103; have hcz15_1 := zC21 BK103; have hfz15_0 := blk_frozen BK103.out 0; have hfz15_1 := blk_frozen BK103.out 1))); go_roundg k2; (case measure => have := HJ2.out; have := HK2.out; omega); case rel => exact ⟨(wrap64 (x5_2 + 1)), (wrap64 (x19_2 + 1)), zz5, zz5, H', ⟨by have := HJ2.out; have := HK2.out; omega⟩, ⟨zz15⟩, ⟨zz27⟩⟩
     rw [if_neg c12] at H; have c12b0 : (((rd_T57 l0_1 x19_2).f0) == a1) = false := beq_eq_false_iff_ne.mpr c12; have c12b1 : (((rd_T57 l0_1 x19_2).f0) != a1) = true := bne_iff_ne.mpr c12; by_cases c16 : ((rd_T57 l0_1 x19_2).f1) = a1; rotate_left
     ·rw [if_neg c16] at H; have c16b0 : (((rd_T57 l0_1 x19_2).f1) == a1) = false := beq_eq_false_iff_ne.mpr c16; have c16b1 : (((rd_T57 l0_1 x19_2).f1) != a1) = true := bne_iff_ne.mpr c16; have H' := Aside0.mk H; clear H; have p102 : 0 ≤ (x19_2 : Int) := of_decide_eq_true zz3; have q102 : x19_2 < (l0_1.length : Int) := of_decide_eq_true zz3; obtain ⟨ad102, e102, hx102_0, hx102_1⟩ := at_T57 HR0_1.out x19_2 p102 q102; cases e102; replace hx102_0 := (HB.out.cell (World.block_lt_of_cell? w _ hx102_0)).trans hx102_0; replace hx102_1 := (HB.out.cell (World.block_lt_of_cell? w _ hx102_1)).trans hx102_1; replace p102 := eq_true p102; replace q102 := eq_true q102; (go_wp2_with (first | ((with_reducible refine gate_dst (N := 7) rfl ?_); refine box_event ?hg (N := 7) ?hd (cs := #[.int .i64 0, .int .i64 0]) (t := 57) ?hr ?_; (case hd => rfl); (case hg => rfl); (case hr => exact zz9); intro gb103 hg w20 hbox hb; have n_ := zA7 (blk_below (g := gb101) (o := .cells #[.int .i64 a0_0, .slice (some ad102) l0_1.length c0_1] 25 (0, 0)) zz2 hb) (below_step zz0 hb) hbox (zz13 : w.heap.size ≤ gb103) (zz13 : w.heap.size ≤ gb103) (zz37 : gb101 ≠ gb103) (zz38 : gb103 ≠ gb101); clear BK101 HB; obtain ⟨BK101, HB, BK103, GW103, GE103, NB101_103, NB103_101⟩ := n_; clear hb hbox hg; have hnb21 := NB103_101.out; have hnc21 := NB101_103.out; have hcz22_0 := zC20 BK103; have hcz22_1 := zC21 BK103; have hfz22_0 := blk_frozen BK103.out 0; have hfz22_1 := blk_frozen BK103.out 1))); go_roundg k2; (case measure => have := HJ2.out; have := HK2.out; omega); case rel => exact ⟨(x5_2), (wrap64 (x19_2 + 1)), zz5, zz5, H', ⟨by have := HJ2.out; have := HK2.out; omega⟩, ⟨zz15⟩, ⟨zz27⟩⟩
     rw [if_pos c16] at H; have c16b0 : (((rd_T57 l0_1 x19_2).f1) == a1) = true := beq_iff_eq.mpr c16; have c16b1 : (((rd_T57 l0_1 x19_2).f1) != a1) = false := bne_eq_false_iff_eq.mpr c16; clear c16; have H' := Aside0.mk H; clear H; have p102 : 0 ≤ (x19_2 : Int) := of_decide_eq_true zz3; have q102 : x19_2 < (l0_1.length : Int) := of_decide_eq_true zz3; obtain ⟨ad102, e102, hx102_0, hx102_1⟩ := at_T57 HR0_1.out x19_2 p102 q102; cases e102; replace hx102_0 := (HB.out.cell (World.block_lt_of_cell? w _ hx102_0)).trans hx102_0; replace hx102_1 := (HB.out.cell (World.block_lt_of_cell? w _ hx102_1)).trans hx102_1; replace p102 := eq_true p102; replace q102 := eq_true q102; (go_wp2_with (first | ((with_reducible refine gate_dst (N := 7) rfl ?_); refine box_event ?hg (N := 7) ?hd (cs := #[.int .i64 0, .int .i64 0]) (t := 57) ?hr ?_; (case hd => rfl); (case hg => rfl); (case hr => exact zz9); intro gb103 hg w17 hbox hb; have n_ := zA7 (blk_below (g := gb101) (o := .cells #[.int .i64 a0_0, .slice (some ad102) l0_1.length c0_1] 25 (0, 0)) zz2 hb) (below_step zz0 hb) hbox (zz13 : w.heap.size ≤ gb103) (zz13 : w.heap.size ≤ gb103) (zz37 : gb101 ≠ gb103) (zz38 : gb103 ≠ gb101); clear BK101 HB; obtain ⟨BK101, HB, BK103, GW103, GE103, NB101_103, NB103_101⟩ := n_; clear hb hbox hg; have hnb18 := NB103_101.out; have hnc18 := NB101_103.out; have hcz19_0 := zC20 BK103; have hcz19_1 := zC21 BK103; have hfz19_0 := blk_frozen BK103.out 0; have hfz19_1 := blk_frozen BK103.out 1))); go_roundg k2; (case measure => have := HJ2.out; have := HK2.out; omega); case rel => exact ⟨(wrap64 (x5_2 + 1)), (wrap64 (x19_2 + 1)), zz5, zz5, H', ⟨by have := HJ2.out; have := HK2.out; omega⟩, ⟨zz15⟩, ⟨zz27⟩⟩
end Go.Proofs.Ytnbljcgdgblgoaa.P
end

section
namespace Go.Proofs.Ytnbljcgdgblgoaa.P
open Go.RowKit Go.Proofs.YtnbljcgdgblgoaaW.PrintWords Go.Proofs.YtnbljcgdgblgoaaW.PrintLast Go.Proofs.YtnbljcgdgblgoaaW.PrintMore
attribute [local go_sem] max2_int min2_int max_two min_two max_three min_three max_four min_four
set_option linter.unusedVariables false
set_option linter.unusedSimpArgs false
mutual
def impl_LaplacianOf.l0 : Nat → List (List Int) → Int → Int → List (S57) → Option ((List (List Int)))
 | 0, _, _, _, _ => none
 | k + 1, x3, x4, x102000, x102001 => if x4 < x102000 then (if 0 ≤ x102000 then (if (x102000 : Int).toNat ≤ 35184372088832 then ((some (List.replicate (x102000 : Int).toNat 0 : List Int)).bind fun y103 => (impl_LaplacianOf.l1 k x3 x4 y103 (y103.length : Int) 0 x102000 x102001)) else (none)) else (none)) else (some x3)
def impl_LaplacianOf.l1 : Nat → List (List Int) → Int → List Int → Int → Int → Int → List (S57) → Option ((List (List Int)))
 | 0, _, _, _, _, _, _, _ => none
 | k + 1, x3, x4, x5, x20, x21, x102000, x102001 => if x21 < x20 then ((impl_Multiplicity.f k x102000 x102001 x4 x21).bind fun t106 => (if 0 ≤ x21 then (if x21 < (x5.length : Int) then (impl_LaplacianOf.l1 k x3 x4 (x5.set (x21 : Int).toNat (wrap64 (-t106))) x20 (wrap64 (x21 + 1)) x102000 x102001) else (none)) else (none))) else ((impl_Valence.f k x102000 x102001 x4).bind fun t108 => (if 0 ≤ x4 then (if x4 < (x5.length : Int) then (if x3.length < 5864062014805 then (impl_LaplacianOf.l0 k (x3 ++ [(x5.set (x4 : Int).toNat t108)]) (wrap64 (x4 + 1)) x102000 x102001) else (none)) else (none)) else (none)))
end
def impl_LaplacianOf.f (k : Nat) (a0_0 : Int) (l0_1 : List (S57)) : Option ((List (List Int))) := (impl_GraphOk.f a0_0 l0_1).bind fun t102 => (if t102 = true then (impl_LaplacianOf.l0 k ([] : List (List Int)) 0 a0_0 l0_1) else (some ([] : List (List Int))))
theorem impl_LaplacianOf.mono_l : ∀ k, (∀ y0 y1 y2 y3, LeO (impl_LaplacianOf.l0 k y0 y1 y2 y3) (impl_LaplacianOf.l0 (k + 1) y0 y1 y2 y3)) ∧ (∀ y0 y1 y2 y3 y4 y5 y6, LeO (impl_LaplacianOf.l1 k y0 y1 y2 y3 y4 y5 y6) (impl_LaplacianOf.l1 (k + 1) y0 y1 y2 y3 y4 y5 y6))
 | 0 => ⟨fun _ _ _ _ r h => by simp [impl_LaplacianOf.l0] at h, fun _ _ _ _ _ _ _ r h => by simp [impl_LaplacianOf.l1] at h⟩
 | k + 1 => by
  obtain ⟨ih0, ih1⟩ := impl_LaplacianOf.mono_l k
  refine ⟨?_, ?_⟩
  ·intro y0 y1 y2 y3
   unfold impl_LaplacianOf.l0
   exact zm8
  ·intro y0 y1 y2 y3 y4 y5 y6
   unfold impl_LaplacianOf.l1
   exact zm8
theorem impl_LaplacianOf.mono : ∀ a0 a1 k, LeO (impl_LaplacianOf.f k a0 a1) (impl_LaplacianOf.f (k + 1) a0 a1) := by
 intro a0 a1 k; obtain ⟨ih0, ih1⟩ := impl_LaplacianOf.mono_l k; unfold impl_LaplacianOf.f; exact zm8
set_option maxHeartbeats 8000000 in
set_option maxRecDepth 100000 in
theorem impl_LaplacianOf.calls (k : Nat) (a0_0 : Int) (A0_1 : Option Addr) (c0_1 : Nat) (l0_1 : List (S57)) (r : List (List Int)) (w : World) (hr0_1 : Kd.C k57 w A0_1 l0_1.length l0_1) (hc0_1 : l0_1.length ≤ c0_1) (h : impl_LaplacianOf.f k a0_0 l0_1 = some r) :
  Calls Try.prog 146 #[.agg #[.int .i64 a0_0, .slice A0_1 l0_1.length c0_1]] w fun e w' => ∃ v0_ : Value, e = .returned (v0_) ∧ Kd.S (Kd.slice 3 (Kd.int .i64)) 26 w' w.heap.size (fun _ => True) v0_ r ∧ Below w.heap.size w w' := by
 have hu25 := Try.underlying25; have HR0_1 := Aside0.mk hr0_1; have HC0_1 := Aside0.mk hc0_1; clear hr0_1 hc0_1; have HB := Aside0.mk (Below.refl w.heap.size w); have H : ((impl_GraphOk.f a0_0 l0_1).bind fun t102 => (if t102 = true then (impl_LaplacianOf.l0 k ([] : List (List Int)) 0 a0_0 l0_1) else (some ([] : List (List Int))))) = some r := h; clear h; replace H := Option.bind_eq_some_iff.mp H; obtain ⟨t102, A20, H⟩ := H; (try dsimp only at H); have A2 := Aside0.mk A20; clear A20; by_cases c3 : t102 = true; rotate_left
 ·replace c3 := Bool.eq_false_iff.mpr c3; subst c3; rw [if_neg (show ¬ (false = true) by decide)] at H; obtain rfl := Option.some.inj H; go_enter Try.func146, Try.ntmps146; (go_wp2_with (first | ((with_reducible refine gate_dst (N := 1) rfl ?_); refine box_event ?hg (N := 1) ?hd (cs := #[.int .i64 a0_0, .slice A0_1 l0_1.length c0_1]) (t := 25) ?hr ?_; (case hd => rfl); (case hg => rfl); (case hr => exact zz9); intro gb101 hg w34 hbox hb; have n_ := zA4 (below_step zz1 hb) hbox (zz10 : w.heap.size ≤ gb101) (zz10 : w.heap.size ≤ gb101); clear HB; obtain ⟨HB, BK101, GW101, GE101⟩ := n_; clear hb hbox hg; have hcz35_0 := zC20 BK101; have hcz35_1 := zC21 BK101; have hfz35_0 := blk_frozen BK101.out 0; have hfz35_1 := blk_frozen BK101.out 1) | ((with_reducible refine gate_callee (f := 50) rfl ?_); refine goesL_ (some 8) rfl rfl Try.func50 (by kernel_rfl) rfl #[.agg #[.int .i64 a0_0, .slice A0_1 l0_1.length c0_1]] rfl zz4 ?_; (with_reducible refine (impl_GraphOk.calls a0_0 _ _ l0_1 false _ ?side1 ?side2 A2.out).mono ?_); (case side1 => exact zz6); (case side2 => exact HC0_1.out); rintro e w36 ⟨rfl, hb⟩; refine ⟨_, rfl, ?_⟩; have n_ := zA2 (blk_below (g := gb101) (o := .cells #[.int .i64 a0_0, .slice A0_1 l0_1.length c0_1] 25 (0, 0)) zz2 hb) (below_step zz0 hb); clear BK101 HB; obtain ⟨BK101, HB⟩ := n_; clear hb))); go_ret; exact ⟨_, zz7, zz52, zz0⟩
 subst c3; rw [if_pos rfl] at H; have H' := Aside0.mk H; clear H; go_enter Try.func146, Try.ntmps146; (go_wp2_with (first | ((with_reducible refine gate_dst (N := 1) rfl ?_); refine box_event ?hg (N := 1) ?hd (cs := #[.int .i64 a0_0, .slice A0_1 l0_1.length c0_1]) (t := 25) ?hr ?_; (case hd => rfl); (case hg => rfl); (case hr => exact zz9); intro gb101 hg w4 hbox hb; have n_ := zA4 (below_step zz1 hb) hbox (zz10 : w.heap.size ≤ gb101) (zz10 : w.heap.size ≤ gb101); clear HB; obtain ⟨HB, BK101, GW101, GE101⟩ := n_; clear hb hbox hg; have hcz5_0 := zC20 BK101; have hcz5_1 := zC21 BK101; have hfz5_0 := blk_frozen BK101.out 0; have hfz5_1 := blk_frozen BK101.out 1) | ((with_reducible refine gate_callee (f := 50) rfl ?_); refine goesL_ (some 8) rfl rfl Try.func50 (by kernel_rfl) rfl #[.agg #[.int .i64 a0_0, .slice A0_1 l0_1.length c0_1]] rfl zz4 ?_; (with_reducible refine (impl_GraphOk.calls a0_0 _ _ l0_1 true _ ?side1 ?side2 A2.out).mono ?_); (case side1 => exact zz6); (case side2 => exact HC0_1.out); rintro e w6 ⟨rfl, hb⟩; refine ⟨_, rfl, ?_⟩; have n_ := zA2 (blk_below (g := gb101) (o := .cells #[.int .i64 a0_0, .slice A0_1 l0_1.length c0_1] 25 (0, 0)) zz2 hb) (below_step zz0 hb); clear BK101 HB; obtain ⟨BK101, HB⟩ := n_; clear hb))); (go_loopg [3, 4] k (fun kq v3 v4 w' => ∃ (x3_1 : List (List Int)) (x4_1 : Int), v4 = .int .i64 x4_1 ∧ Aside0 (impl_LaplacianOf.l0 kq x3_1 x4_1 a0_0 l0_1 = some r) ∧ Aside0 (kq ≤ k) ∧ Aside0 (Kd.S (Kd.slice 3 (Kd.int .i64)) 26 w' w.heap.size (fun _ => True) v3 x3_1) ∧ Aside0 (w'.heap[gb101]? = some (.cells #[.int .i64 a0_0, (.slice A0_1 l0_1.length c0_1)] 25 (0, 0))) ∧ Aside0 (Below w.heap.size w w'))); case atStart => exact ⟨(([] : List (List Int))), (0), zz5, H', ⟨Nat.le_refl _⟩, ⟨zz52⟩, ⟨zz2⟩, ⟨zz0⟩⟩
 case round =>
  clear H'; (try clear c1); (try clear p2); (try clear c3); (try clear c5); (try clear hcz5_0); (try clear hcz5_1); (try clear hfz5_0); (try clear hfz5_1); obtain ⟨x3_1, x4_1, rfl, HA, HK1, HO_3, BK101, HB⟩ := hrel
  cases gk with
  | zero => exact absurd HA.out (by simp [impl_LaplacianOf.l0])
  | succ k1 =>
   have H := HA.out; clear HA; simp only [impl_LaplacianOf.l0] at H; by_cases c7 : x4_1 < a0_0; rotate_left
   ·rw [if_neg c7] at H; have c7b0 := decide_eq_false c7; clear c7; obtain rfl := Option.some.inj H; have hcz33_0 := zC20 BK101; have hcz33_1 := zC21 BK101; have hfz33_0 := blk_frozen BK101.out 0; have hfz33_1 := blk_frozen BK101.out 1; go_wp2; go_ret; exact ⟨_, zz7, by (with_reducible repeat (first | apply Kd.S_alloc | apply Kd.S_drewN | apply Kd.S_drew)); exact HO_3.out, zz0⟩
   rw [if_pos c7] at H; have c7b0 := decide_eq_true c7; clear c7; by_cases c8 : 0 ≤ a0_0; rotate_left
   ·rw [if_neg c8] at H; exact absurd H (by simp)
   rw [if_pos c8] at H; have c8b0 := eq_true c8; have c8b1 : decide (0 ≤ a0_0) = true := decide_eq_true c8; clear c8; by_cases c9 : (a0_0 : Int).toNat ≤ 35184372088832; rotate_left
   ·rw [if_neg c9] at H; exact absurd H (by simp)
   rw [if_pos c9] at H; have c9b0 := eq_true c9; have c9b1 : decide ((a0_0 : Int).toNat ≤ 35184372088832) = true := decide_eq_true c9; clear c9; obtain ⟨y103, hy_⟩ : ∃ y_ : List Int, y_ = (List.replicate (a0_0 : Int).toNat 0) := ⟨_, rfl⟩; (replace H : (impl_LaplacianOf.l1 k1 x3_1 x4_1 y103 (y103.length : Int) 0 a0_0 l0_1) = some r := zzY); have Ny103 := Aside0.mk hy_; clear hy_; have H' := Aside0.mk H; clear H; have hcz10_0 := zC20 BK101; have hcz10_1 := zC21 BK101; have hfz10_0 := blk_frozen BK101.out 0; have hfz10_1 := blk_frozen BK101.out 1; (go_wp2_with (first | ((with_reducible refine gate_dst (N := 18) rfl ?_); refine Kd.R_make (Kd.int .i64) _ 3 rfl (N := 18) rfl 26 _ _ rfl a0_0 rfl rfl Try.underlying26 (.int .i64 0) 8 info3 rfl (by decide) (by omega) 0 (ok := fun _ => True) (okp := fun _ => True) rfl (fun _ hk => hk) trivial (of_decide_eq_true zz3) (Nat.le_trans (Nat.mul_le_mul_right _ (of_decide_eq_true zz3 : a0_0.toNat ≤ 35184372088832)) (by omega)) (Below.refl _ _) (Nat.le_refl _) ?_; intro v104 w11 ho12 hb hg_ hnew_; clear hg_ hnew_; (first | rw [← Ny103.out] at ho12 | (simp only [Int.reduceToNat] at ho12; rw [← Ny103.out] at ho12)); have n_ := zA4 (Kd.S_elder' zz44 (Kd.R_base ho12) hb) (Kd.R_lower ho12 (below_size zz0)) (blk_below (g := gb101) (o := .cells #[.int .i64 a0_0, .slice A0_1 l0_1.length c0_1] 25 (0, 0)) zz2 hb) (below_step zz0 hb); clear HO_3 BK101 HB; obtain ⟨HO_3, HO105, BK101, HB⟩ := n_; clear hb ho12; obtain ⟨Ao13, co13, eo13⟩ := Kd.R_slice HO105.out; subst eo13))); (go_loopg [21] k1 (fun kq v21 w' => ∃ (x5_2 : List Int) (x21_2 : Int), v21 = .int .i64 x21_2 ∧ Aside0 (impl_LaplacianOf.l1 kq x3_1 x4_1 x5_2 (y103.length : Int) x21_2 a0_0 l0_1 = some r) ∧ Aside0 (kq ≤ k1) ∧ Aside0 (Kd.S (Kd.slice 3 (Kd.int .i64)) 26 w' w.heap.size (fun k_ => some k_ ≠ ((.slice Ao13 y103.length co13) : Value).ownBlock) u3 x3_1) ∧ Aside0 (Kd.R (Kd.int .i64) 3 w' w.heap.size (fun _ => True) (.slice Ao13 y103.length co13) x5_2) ∧ Aside0 (w'.heap[gb101]? = some (.cells #[.int .i64 a0_0, (.slice A0_1 l0_1.length c0_1)] 25 (0, 0))) ∧ Aside0 (Below w.heap.size w w'))); case atStart => exact ⟨(y103), (0), zz5, H', ⟨Nat.le_refl _⟩, ⟨zz53⟩, ⟨by (with_reducible repeat (first | apply Kd.R_alloc | apply Kd.R_drewN | apply Kd.R_drew)); exact HO105.out⟩, ⟨zz2⟩, ⟨zz0⟩⟩
   case round =>
    clear H'; (try clear c1); (try clear p2); (try clear c3); (try clear c5); (try clear c7); (try clear c7b0); (try clear c8); (try clear c8b0); (try clear c8b1); (try clear c9); (try clear c9b0); (try clear c9b1); (try clear hcz10_0); (try clear hcz10_1); (try clear hcz5_0); (try clear hcz5_1); (try clear hfz10_0); (try clear hfz10_1); (try clear hfz5_0); (try clear hfz5_1); (try clear p2); obtain ⟨x5_2, x21_2, rfl, HA, HK2, HO_3, HO_5, BK101, HB⟩ := hrel; have hl5_2 := (Kd.R_reads' HO_5.out).1; rw [hl5_2] at HO_5; (try simp only [hl5_2]); (try simp only [hl5_2] at BK101); (try simp only [hl5_2] at HO_3)
    cases gk with
    | zero => exact absurd HA.out (by simp [impl_LaplacianOf.l1])
    | succ k2 =>
     have H := HA.out; clear HA; simp only [impl_LaplacianOf.l1] at H; by_cases c14 : x21_2 < (y103.length : Int)
     ·rw [if_pos c14] at H; have c14b0 := decide_eq_true c14; (try (have c14b85_2 := c14b0; first | rw [hl5_2] at c14b85_2 | rw [← hl5_2] at c14b85_2)); clear c14; replace H := Option.bind_eq_some_iff.mp H; obtain ⟨t106, A150, H⟩ := H; (try dsimp only at H); have A15 := Aside0.mk A150; clear A150; by_cases c16 : 0 ≤ x21_2; rotate_left
      ·rw [if_neg c16] at H; exact absurd H (by simp)
      rw [if_pos c16] at H; have c16b0 := decide_eq_true c16; clear c16; by_cases c17 : x21_2 < (x5_2.length : Int); rotate_left
      ·rw [if_neg c17] at H; exact absurd H (by simp)
      rw [if_pos c17] at H; have c17b0 := decide_eq_true c17; (try (have c17b85_2 := c17b0; first | rw [hl5_2] at c17b85_2 | rw [← hl5_2] at c17b85_2)); clear c17; obtain ⟨y107, hy_⟩ : ∃ y_ : List Int, y_ = (x5_2.set (x21_2 : Int).toNat (wrap64 (-t106))) := ⟨_, rfl⟩; (replace H : (impl_LaplacianOf.l1 k2 x3_1 x4_1 y107 (y103.length : Int) (wrap64 (x21_2 + 1)) a0_0 l0_1) = some r := zzY); have Ny107 := Aside0.mk hy_; clear hy_; have H' := Aside0.mk H; clear H; have hcz19_0 := zC20 BK101; have hcz19_1 := zC21 BK101; have hfz19_0 := blk_frozen BK101.out 0; have hfz19_1 := blk_frozen BK101.out 1; (go_wp2_with (first | ((with_reducible refine gate_callee (f := 123) rfl ?_); refine goesL_ (some 29) rfl rfl Try.func123 (by kernel_rfl) rfl #[.agg #[.int .i64 a0_0, .slice A0_1 l0_1.length c0_1], .int .i64 x4_1, .int .i64 x21_2] rfl zz4 ?_; (with_reducible refine (impl_Multiplicity.calls k2 a0_0 _ _ l0_1 x4_1 x21_2 t106 _ ?side1 ?side2 A15.out).mono ?_); (case side1 => exact zz6); (case side2 => exact HC0_1.out); rintro e w20 ⟨rfl, hb⟩; refine ⟨_, rfl, ?_⟩; have n_ := zA4 (Kd.S_below zz44 hb) (Kd.R_below zz22 hb) (blk_below (g := gb101) (o := .cells #[.int .i64 a0_0, .slice A0_1 l0_1.length c0_1] 25 (0, 0)) zz2 hb) (below_step zz0 hb); clear HO_3 HO_5 BK101 HB; obtain ⟨HO_3, HO_5, BK101, HB⟩ := n_; clear hb; have p18 : 0 ≤ (x21_2 : Int) := of_decide_eq_true zz3; have q18 : (x21_2 : Int) < ((x5_2.length : Int) : Int) := of_decide_eq_true zz3; obtain ⟨go18, co18, eo18, gb18, gl18, cl18, HG18⟩ := Kd.R_form HO_5.out (by omega); (first | cases eo18 | (injection eo18 with ea_ en_ ec_; (first | subst ea_ | (injection ea_ with ea_; subst ea_)); subst ec_; clear en_)); have GB18 := Aside0.mk gb18; have GG18 := Aside0.mk HG18; clear gb18 gl18 HG18; obtain ⟨hx18_0, hf18_0⟩ := Kd.R_celln 0 HO_5.out (x21_2 : Int) p18 q18; replace p18 := eq_true p18; replace q18 := eq_true q18; obtain ⟨hy21_, hz21_⟩ := Kd.R_celln 0 HO_5.out (x21_2 : Int) (of_decide_eq_true zz3) (of_decide_eq_true zz3); have HP21 := Kd.R_putg HO_5.out (x21_2 : Int) (wrap64 (-t106))) | ((with_reducible refine gate_store (t := 3) (p := 31) rfl ?_); refine store_event (t := 3) (p := 31) (v := ?vo_w22) (w1 := (w20.setCell ⟨go18, (x21_2 : Int).toNat, none⟩ (.int .i64 (wrap64 (-t106))))) ?hg ?ho ?hn ?hr ?_; (case ho => rfl); (case hg => rfl); (case hn => rfl); (case hr => exact zz9); intro w22 hw; have hg : w20.grownBy w22 (some go18) := (by rw [hw]; exact HP21.2); have hp_ : Kd.R (Kd.int .i64) 3 w22 w.heap.size (fun _ => True) (.slice (some ⟨go18, 0, none⟩) x5_2.length co13) y107 := (by rw [hw, Ny107.out]; exact HP21.1); clear HP21; have n_ := zA4 (Kd.S_after (v := (.slice (some ⟨go18, 0, none⟩) x5_2.length co13)) (v1 := (.slice (some ⟨go18, 0, none⟩) x5_2.length co13)) (ok := (fun _ => True)) zz51 hg (.inl rfl)) hp_ (blk_grown (g := gb101) (o := .cells #[.int .i64 a0_0, .slice A0_1 l0_1.length c0_1] 25 (0, 0)) zz2 hg (Kd.R_ne HO_5.out BK101.out (by decide))) (by rw [hw]; exact below_set (HB.out) GB18.out : Below w.heap.size w w22); clear HO_3 HO_5 BK101 HB; obtain ⟨HO_3, HO_5, BK101, HB⟩ := n_; clear hg hw hp_))); (try simp only [← hl5_2]); go_roundg k2; (case measure => have := HK1.out; have := HK2.out; omega); case rel => exact ⟨(y107), (wrap64 (x21_2 + 1)), zz5, H', ⟨zz50⟩, ⟨by (try simp only [hl5_2]); (with_reducible repeat (first | apply Kd.S_alloc | apply Kd.S_drewN | apply Kd.S_drew)); exact Kd.S_mono HO_3.out (fun _ hk => hk.2)⟩, ⟨by (try simp only [hl5_2]); (with_reducible repeat (first | apply Kd.R_alloc | apply Kd.R_drewN | apply Kd.R_drew)); exact HO_5.out⟩, ⟨by (try simp only [hl5_2]); (with_reducible repeat (first | refine blk_drewN ?_ _ | refine blk_drew ?_ | refine blk_alloc ?_ _)); exact BK101.out⟩, ⟨zz0⟩⟩
     rw [if_neg c14] at H; have c14b0 := decide_eq_false c14; (try (have c14b85_2 := c14b0; first | rw [hl5_2] at c14b85_2 | rw [← hl5_2] at c14b85_2)); clear c14; replace H := Option.bind_eq_some_iff.mp H; obtain ⟨t108, A230, H⟩ := H; (try dsimp only at H); have A23 := Aside0.mk A230; clear A230; by_cases c24 : 0 ≤ x4_1; rotate_left
     ·rw [if_neg c24] at H; exact absurd H (by simp)
     rw [if_pos c24] at H; have c24b0 := decide_eq_true c24; clear c24; by_cases c25 : x4_1 < (x5_2.length : Int); rotate_left
     ·rw [if_neg c25] at H; exact absurd H (by simp)
     rw [if_pos c25] at H; have c25b0 := decide_eq_true c25; (try (have c25b85_2 := c25b0; first | rw [hl5_2] at c25b85_2 | rw [← hl5_2] at c25b85_2)); clear c25; obtain ⟨y109, hy_⟩ : ∃ y_ : List Int, y_ = (x5_2.set (x4_1 : Int).toNat t108) := ⟨_, rfl⟩; (replace H : (if x3_1.length < 5864062014805 then (impl_LaplacianOf.l0 k2 (x3_1 ++ [y109]) (wrap64 (x4_1 + 1)) a0_0 l0_1) else (none)) = some r := zzY); have Ny109 := Aside0.mk hy_; clear hy_; by_cases c27 : x3_1.length < 5864062014805; rotate_left
     ·rw [if_neg c27] at H; exact absurd H (by simp)
     rw [if_pos c27] at H; have LMc27 := Aside0.mk c27; clear c27; obtain ⟨y110, hy_⟩ : ∃ y_ : List (List Int), y_ = (x3_1 ++ [y109]) := ⟨_, rfl⟩; (replace H : (impl_LaplacianOf.l0 k2 y110 (wrap64 (x4_1 + 1)) a0_0 l0_1) = some r := zzY); have Ny110 := Aside0.mk hy_; clear hy_; have H' := Aside0.mk H; clear H; have hcz28_0 := zC20 BK101; have hcz28_1 := zC21 BK101; have hfz28_0 := blk_frozen BK101.out 0; have hfz28_1 := blk_frozen BK101.out 1; (go_wp2_with (first | ((with_reducible refine gate_callee (f := 75) rfl ?_); refine goesL_ (some 37) rfl rfl Try.func75 (by kernel_rfl) rfl #[.agg #[.int .i64 a0_0, .slice A0_1 l0_1.length c0_1], .int .i64 x4_1] rfl zz4 ?_; (with_reducible refine (impl_Valence.calls k2 a0_0 _ _ l0_1 x4_1 t108 _ ?side1 ?side2 A23.out).mono ?_); (case side1 => exact zz6); (case side2 => exact HC0_1.out); rintro e w29 ⟨rfl, hb⟩; refine ⟨_, rfl, ?_⟩; have n_ := zA4 (Kd.S_below zz44 hb) (Kd.R_below zz22 hb) (blk_below (g := gb101) (o := .cells #[.int .i64 a0_0, .slice A0_1 l0_1.length c0_1] 25 (0, 0)) zz2 hb) (below_step zz0 hb); clear HO_3 HO_5 BK101 HB; obtain ⟨HO_3, HO_5, BK101, HB⟩ := n_; clear hb; have p26 : 0 ≤ (x4_1 : Int) := of_decide_eq_true zz3; have q26 : (x4_1 : Int) < ((x5_2.length : Int) : Int) := of_decide_eq_true zz3; obtain ⟨go26, co26, eo26, gb26, gl26, cl26, HG26⟩ := Kd.R_form HO_5.out (by omega); (first | cases eo26 | (injection eo26 with ea_ en_ ec_; (first | subst ea_ | (injection ea_ with ea_; subst ea_)); subst ec_; clear en_)); have GB26 := Aside0.mk gb26; have GG26 := Aside0.mk HG26; clear gb26 gl26 HG26; obtain ⟨hx26_0, hf26_0⟩ := Kd.R_celln 0 HO_5.out (x4_1 : Int) p26 q26; replace p26 := eq_true p26; replace q26 := eq_true q26; obtain ⟨hy30_, hz30_⟩ := Kd.R_celln 0 HO_5.out (x4_1 : Int) (of_decide_eq_true zz3) (of_decide_eq_true zz3); have HP30 := Kd.R_putg HO_5.out (x4_1 : Int) t108) | ((with_reducible refine gate_store (t := 3) (p := 38) rfl ?_); refine store_event (t := 3) (p := 38) (v := ?vo_w31) (w1 := (w29.setCell ⟨go26, (x4_1 : Int).toNat, none⟩ (.int .i64 t108))) ?hg ?ho ?hn ?hr ?_; (case ho => rfl); (case hg => rfl); (case hn => rfl); (case hr => exact zz9); intro w31 hw; have hg : w29.grownBy w31 (some go26) := (by rw [hw]; exact HP30.2); have hp_ : Kd.R (Kd.int .i64) 3 w31 w.heap.size (fun _ => True) (.slice (some ⟨go26, 0, none⟩) x5_2.length co13) y109 := (by rw [hw, Ny109.out]; exact HP30.1); clear HP30; have n_ := zA4 (Kd.S_after (v := (.slice (some ⟨go26, 0, none⟩) x5_2.length co13)) (v1 := (.slice (some ⟨go26, 0, none⟩) x5_2.length co13)) (ok := (fun _ => True)) zz51 hg (.inl rfl)) hp_ (blk_grown (g := gb101) (o := .cells #[.int .i64 a0_0, .slice A0_1 l0_1.length c0_1] 25 (0, 0)) zz2 hg (Kd.R_ne HO_5.out BK101.out (by decide))) (by rw [hw]; exact below_set (HB.out) GB26.out : Below w.heap.size w w31); clear HO_3 HO_5 BK101 HB; obtain ⟨HO_3, HO_5, BK101, HB⟩ := n_; clear hg hw hp_) | ((with_reducible refine gate_builtin (b := .append) (xs := #[.tmp 39, .tmp 41]) rfl ?_); at_builtin; refine Kd.S_append (Kd.slice 3 (Kd.int .i64)) (w0 := w) w.heap.size rfl (.tmp 39) (.tmp 41) 34 26 (.slice none 0 0) 24 rfl Try.underlying34 info26 rfl (by decide) (by omega) u3 x3_1 y109 [.slice (some ⟨go26, 0, none⟩) x5_2.length co13] (fun _ => True) (fun k_ => some k_ = (.slice (some ⟨go26, 0, none⟩) x5_2.length co13 : Value).ownBlock) rfl rfl ?aP (fun k_ hk_ => ((Kd.R_mono (ok' := fun k_ => ((fun _ => True)) k_ ∧ some k_ ≠ (u3 : Value).ownBlock) (Kd.R_apart' (HO_5.out) (Kd.S_typed HO_3.out) (by decide)) (fun k_ hk => ⟨trivial, hk.2⟩))).1 k_ hk_.symm) ?aF ?aO ?aB ?aS ?aL ?_; (case aP => exact Kd.M_row (Kd.R_mono (Kd.R_tight rfl (Kd.R_mono (ok' := fun k_ => ((fun _ => True)) k_ ∧ some k_ ≠ (u3 : Value).ownBlock) (Kd.R_apart' (HO_5.out) (Kd.S_typed HO_3.out) (by decide)) (fun k_ hk => ⟨trivial, hk.2⟩))) (fun _ h_ => h_))); (case aB => exact zz0); (case aF => exact (fun _ _ => trivial)); (case aO => exact (by (with_reducible repeat (first | apply Kd.S_alloc | apply Kd.S_drewN | apply Kd.S_drew)); exact Kd.S_mono HO_3.out (fun k_ hk => ⟨trivial, fun e_ => hk.2 e_⟩))); (case aS => exact (below_size zz0)); (case aL => have := LMc27.out; omega); intro v111 w32 ho hb hg hat; rw [← Ny110.out] at ho; have n_ := zA3 (blk_grown (g := gb101) (o := .cells #[.int .i64 a0_0, .slice A0_1 l0_1.length c0_1] 25 (0, 0)) zz2 hg (Kd.S_ne HO_3.out BK101.out (by decide))) hb ho; clear BK101 HB HO_3 HO_5; obtain ⟨BK101, HB, HO112⟩ := n_; clear ho hb hg hat))); (try simp only [← hl5_2]); go_roundg k2; (case measure => have := HK1.out; have := HK2.out; omega); case rel => exact ⟨(y110), (wrap64 (x4_1 + 1)), zz5, H', ⟨zz50⟩, ⟨by (try simp only [hl5_2]); (with_reducible repeat (first | apply Kd.S_alloc | apply Kd.S_drewN | apply Kd.S_drew)); exact HO112.out⟩, ⟨by (try simp only [hl5_2]); (with_reducible repeat (first | refine blk_drewN ?_ _ | refine blk_drew ?_ | refine blk_alloc ?_ _)); exact BK101.out⟩, ⟨zz0⟩⟩
end Go.Proofs.Ytnbljcgdgblgoaa.P
end

section
namespace Go.Proofs.Ytnbljcgdgblgoaa.Cf
set_option linter.unusedVariables false
set_option linter.unusedSimpArgs false
open Go.RowKit Go.Proofs.YtnbljcgdgblgoaaW.PrintWords Go.Proofs.YtnbljcgdgblgoaaW.PrintLast Go.Proofs.YtnbljcgdgblgoaaW.PrintMore Go.Proofs.Ytnbljcgdgblgoaa.P
/-- append WHERE THERE IS ROOM to a row of the call's own, as one step of a region. -/
theorem step_append_own {P : Program} {ops : Array Oper} {o : Oper} {a : Act} {w : World} {K : Act → World → Prop} {Q : Exit → Act → World → Prop} {E : Prop}
    (hg : o.guard = none) (s x : Operand) (t : TypeId) (hop : o.op = Op.call { callee := Callee.builtin Builtin.append, args := #[s, x], argTypes := #[t, t] })
    (base : Nat) (e : TypeId) (i : TypeInfo) (size : Nat) (h1 : P.underlying t = some (.slice e)) (h2 : P.info? e = some i) (h4 : i.size = size)
    (g n cap : Nat) (xs : List Value) (hs : a.eval s = .slice (some ⟨g, 0, none⟩) n cap) (hown : w.ownsRow base e size (.slice (some ⟨g, 0, none⟩) n cap) n xs)
    (ad : Addr) (m c : Nat) (news : List Value) (hx : a.eval x = .slice (some ad) m c) (hn : news.length = m * size) (hc : ∀ j u, news[j]? = some u → w.cell? (ad.add j) = some u) (h1c : ∀ u ∈ news, u.oneCell' = true)
    (hroom : n + m ≤ cap)
    (hK : ∀ w', w'.ownsRow base e size (.slice (some ⟨g, 0, none⟩) (n + m) cap) (n + m) (xs ++ news) → w.grownBy w' (some g) → K (a.put o.dst (.slice (some ⟨g, 0, none⟩) (n + m) cap)) w') :
    if Region.wanted o (yielded ops a.tmps) = true then Oper.wp P o a w K Q else E := by
  have hw : Region.wanted o (yielded ops a.tmps) = true := by simp [Region.wanted, hg]
  rw [if_pos hw]
  obtain ⟨w', hrun, r1, r2⟩ := run_append_fits (P := P) w base t o.type e i size h1 h2 h4 g n cap xs hown ad m c news hn hc h1c hroom
  unfold Oper.wp
  simp [execOp, hop, resolve, invoke, builtin, hs, hx, hrun, Result.andThen]
  exact hK w' r1 r2
/-- Some cells of one's own row are stored into, behind what it holds. -/
theorem own_tail {base e size n : Nat} {cap g : Nat} {xs : List Value} : ∀ (vs : List Value) (o : Nat) (w : World), w.ownsRow base e size (.slice (some ⟨g, 0, none⟩) n cap) n xs → n * size ≤ o → o + vs.length ≤ cap * size →
    (w.setCells g o vs).ownsRow base e size (.slice (some ⟨g, 0, none⟩) n cap) n xs ∧ w.grownBy (w.setCells g o vs) (some g)
  | [], o, w, h, _, _ => ⟨h, World.grownBy.refl _ _⟩
  | v :: vs, o, w, h, h1, h2 => by
    have h0 : (w.setCell ⟨g, o, none⟩ v).ownsRow base e size (.slice (some ⟨g, 0, none⟩) n cap) n xs := by
      obtain ⟨hl, hr⟩ := h
      refine ⟨hl, ?_⟩
      rcases hr with ⟨hv, _⟩ | ⟨g', cap', cur, hv, hb, hh, hn, hm, hs, ht⟩
      · cases hv
      · injection hv with ha _ hc
        injection ha with ha
        injection ha with ha
        subst ha
        subst hc
        refine .inr ⟨g, cap, cur.setIfInBounds o v, rfl, hb, blk_put hh o v rfl, hn, hm, by rw [Array.size_setIfInBounds]; exact hs, ?_⟩
        rw [← ht, Array.toList_setIfInBounds, List.take_set_of_le h1]
    have hg : w.grownBy (w.setCell ⟨g, o, none⟩ v) (some g) := ⟨rfl, rfl, rfl, by simp [World.setCell], fun k _ hk => Below.heap_setCell w ⟨g, o, none⟩ v k (fun e => hk (by rw [e]))⟩
    obtain ⟨h3, h4⟩ := own_tail vs (o + 1) _ h0 (by omega) (by rw [List.length_cons] at h2; omega)
    refine ⟨h3, ⟨h4.os.trans hg.os, h4.tape.trans hg.tape, h4.output.trans hg.output, Nat.le_trans hg.size h4.size, fun k hk hne => ?_⟩⟩
    rw [show w.setCells g o (v :: vs) = (w.setCell ⟨g, o, none⟩ v).setCells g (o + 1) vs from rfl, h4.block k (Nat.lt_of_lt_of_le hk hg.size) hne]
    exact hg.block k hk hne
end Go.Proofs.Ytnbljcgdgblgoaa.Cf
end

section
namespace Go.Proofs.Ytnbljcgdgblgoaa.P
open Go.RowKit Go.Proofs.YtnbljcgdgblgoaaW.PrintWords Go.Proofs.YtnbljcgdgblgoaaW.PrintLast Go.Proofs.YtnbljcgdgblgoaaW.PrintMore
attribute [local go_sem] max2_int min2_int max_two min_two max_three min_three max_four min_four
set_option linter.unusedVariables false
set_option linter.unusedSimpArgs false
def slices_Delete_int_int.f (l0 : List (Int)) (a1 a2 : Int) : Option (List (Int)) := if 0 ≤ a1 then (if a1 < (l0.length : Int) then (if a2 = a1 + 1 then some (l0.eraseIdx a1.toNat) else none) else none) else none
theorem slices_Delete_int_int.clear_ {P : Program} (W : World) {g o c : Nat} {t e ty : TypeId} {cur : Array Value} (ht : P.underlying t = some (.slice e)) (hv : ∀ w, (zeroValue e).run P w = .ok (.int .i64 0) w) (hb : W.heap[g]? = some (.cells cur e (0, 0))) (hl : o + 1 ≤ cur.size) :
  (Builtin.clear_ #[t] ty #[.slice (some ⟨g, o, none⟩) 1 c]).run P W = .ok (.tuple #[]) (W.setCells g o [.int .i64 0]) := by
 have hst := run_storeCells_cells (P := P) g o [.int .i64 0] 0 W (fun j hj => by
  rw [blk_cell hb]; (simp at hj ⊢); omega) (fun j hj => blk_frozen hb _) (by intro v hv'; simp at hv'; rw [hv']; rfl)
 simp only [Nat.add_zero] at hst; (have hz : (Builtin.zeroCells (.int .i64 0 : Value).cells 1).toList = [.int .i64 0] := by simp [Builtin.zeroCells, Value.cells, List.range_succ]); simp [Builtin.clear_, run_underlying ht, hv, hz, hst]
set_option maxHeartbeats 4000000 in
set_option maxRecDepth 1000000 in
theorem slices_Delete_int_int.calls (P0_ : Nat → Prop) (u9000_ : Value) (l0 : List (Int)) (a1 a2 : Int) (r : List (Int)) (w0 w : World) (hB : Below w0.heap.size w0 w) (ho0 : Kd.R (Kd.int .i64) 3 w w0.heap.size P0_ u9000_ l0) (h : slices_Delete_int_int.f l0 a1 a2 = some r) :
  Calls Try.prog 147 #[u9000_, .int .i64 a1, .int .i64 a2] w fun e w' => ∃ v0_ : Value, e = .returned (v0_) ∧ Kd.R (Kd.int .i64) 3 w' w0.heap.size (fun k_ => (P0_ k_ ∨ w.heap.size ≤ k_)) v0_ r ∧ Below w0.heap.size w0 w' ∧ Kept w w' (fun k_ => P0_ k_) := by
 unfold slices_Delete_int_int.f at h; split at h
 ·split at h
  ·split at h
   ·rename_i h0 h1 h2; subst h2; obtain rfl := Option.some.inj h; obtain ⟨i, rfl⟩ := Int.eq_ofNat_of_zero_le h0; (have hi : i < l0.length := by omega); clear h h0 h1; obtain ⟨hk0, inner, ho, hr⟩ := ho0; have hil : inner.length = l0.length * 1 := ho.1; rcases ho.2 with ⟨hv, hn⟩ | ⟨g, cap, cur, rfl, hbg, hh, hnc, hcm, hcs, htk⟩
    ·omega
    ·obtain ⟨i0, hi0, hz0, hz1, hz2⟩ := info_parts info3; (have hcells : ∀ j u, inner[j]? = some u → w.cell? ⟨g, j, none⟩ = some u := fun j u hu => by have := ho.cells (g := g) rfl j u hu; rwa [add_plain] at this); have hb0 : w0.heap.size ≤ w.heap.size := hB.size; change cur.size = cap * 1 at hcs; change List.take (l0.length * 1) cur.toList = inner at htk; have hk0g : P0_ g := hk0 g rfl; have hoi : w.drew.ownsRow w0.heap.size 3 1 (.slice (some ⟨g, 0, none⟩) i cap) i (inner.take (i * 1)) := ⟨by rw [List.length_take]; omega, .inr ⟨g, cap, cur, rfl, hbg, hh, by omega, hcm, hcs, by rw [← htk, List.take_take, Nat.min_eq_left (by omega)]⟩⟩; obtain ⟨d, hd⟩ : ∃ d, l0.length = i + 1 + d := ⟨l0.length - (i + 1), by omega⟩; rw [hd] at hil hnc htk ⊢; obtain ⟨news, hnews⟩ : ∃ news, news = inner.drop ((i + 1) * 1) := ⟨_, rfl⟩; have hnl : news.length = d * 1 := by rw [hnews, List.length_drop, hil]; omega
     have hn1 : ∀ u ∈ news, u.oneCell' = true := fun u hu => by
      rw [hnews] at hu; exact (Kd.reps_one hr (by decide) (fun p c hp => Kd.K_one (Kd.int .i64) (Kd.K_of_M (Kd.int .i64) hp))) u (List.mem_of_mem_drop hu)
     obtain ⟨A, hA, hsrc⟩ : ∃ A : Addr, (if cap = i + 1 then some (⟨g, 0, none⟩ : Addr) else some ⟨g, i + 1, none⟩) = some A ∧ Hid (∀ t u, news[t]? = some u → w.drew.cell? (A.add t) = some u) := by
      by_cases hq : cap = i + 1
      ·refine ⟨⟨g, 0, none⟩, by simp [hq], fun t u hu => ?_⟩; (have h0 : news.length = 0 := by omega); rw [List.length_eq_zero_iff.1 h0] at hu; simp at hu
      refine ⟨⟨g, i + 1, none⟩, by simp [hq], fun t u hu => ?_⟩; rw [hnews, List.getElem?_drop] at hu; rw [Addr.add_lit]; exact hcells _ _ (by simpa using hu)
     have HD := Aside0.mk hd; clear hi; have HO := Aside0.mk hoi; have HNL := Aside0.mk hnl; have HN1 := Aside0.mk hn1; have HR := Aside0.mk hr; have HNW := Aside0.mk hnews; have HIL := Aside0.mk hil; have HBW := Aside0.mk hB; have HC := Aside0.mk hcs; have HG := Aside0.mk (⟨hbg, hk0g, hcm⟩ : w0.heap.size ≤ g ∧ P0_ g ∧ cap ≤ maxLen); (have hic : i ≤ cap := by omega); (have hjc : i + 1 ≤ cap := by omega); (have hcz : cap ≤ 9223372036854775807 := by have := hcm; unfold maxLen at this; omega); clear hnl hn1 hr hnews hil hB hcs hbg hk0g hcm hh htk ho hcells hk0 hoi hd
     have clr_ : ∀ {W1 : World}, W1.ownsRow w0.heap.size 3 1 (.slice (some ⟨g, 0, none⟩) (i + d) cap) (i + d) (inner.take (i * 1) ++ news) → ∀ ty, (Builtin.clear_ #[26] ty #[.slice (some ⟨g, i + d, none⟩) (i + 1 + d - (i + d)) (cap - (i + d))]).run Try.prog W1 = .ok (.tuple #[]) (W1.setCells g (i + d) [.int .i64 0]) := fun {W1} hO ty => by
      rcases hO.2 with ⟨hv, _⟩ | ⟨g', cap', cur', hv, _, hh', _, _, hs', _⟩
      ·cases hv
      ·injection hv with ha _ hc'; injection ha with ha; injection ha with ha; subst ha; subst hc'; rw [show i + 1 + d - (i + d) = 1 by omega]; exact slices_Delete_int_int.clear_ W1 Try.underlying26 Try.zeroValue3 hh' (by rw [hs']; omega)
     (have hbi0 : (0 : Int) ≤ (i : Int) + 1 := by omega); (have hbi1 : (i : Int) + 1 ≤ (i : Int) + 1 + (d : Int) := by omega); go_enter Try.func147, Try.ntmps147; (go_wp2_with fail); (go_region_law (refine Cf.step_append_own rfl (.tmp 22) (.tmp 25) 26 rfl w0.heap.size 3 i0 1 Try.underlying26 hi0 hz1 g i cap (inner.take (i * 1)) (by simp [Act.eval, Act.put]) HO.out A d (cap - (i + 1)) news (by simp [Act.eval, Act.put]) HNL.out hsrc.out HN1.out (by omega) ?_; intro W1 hO1 hG1; have HO1 := Aside0.mk hO1; have HG1 := Aside0.mk hG1; have hcl := clr_ hO1; obtain ⟨W2, hW2⟩ : ∃ W2, W2 = W1.setCells g (i + d) [.int .i64 0] := ⟨_, rfl⟩; rw [← hW2] at hcl; have HW2 := Aside0.mk hW2; clear hO1 hG1 hW2)); go_wp2; refine bodyPost_ret (v := .slice (some ⟨g, 0, none⟩) (i + d) cap) (by simp [results, Try.results147, go_sem]) rfl ?_; have hO2 := Cf.own_tail [.int .i64 0] (i + d) W1 HO1.out (by omega) (by have := HC.out; simp; omega); rw [← HW2.out] at hO2; have hgr : w.grownBy W2 (some g) := ⟨hO2.2.os.trans HG1.out.os, hO2.2.tape.trans HG1.out.tape, hO2.2.output.trans HG1.out.output, Nat.le_trans HG1.out.size hO2.2.size, fun k hk hne => (hO2.2.block k (Nat.lt_of_lt_of_le hk HG1.out.size) hne).trans (HG1.out.block k hk hne)⟩; (have hel : l0.eraseIdx ((i : Int)).toNat = l0.take i ++ l0.drop (i + 1) := by rw [Int.toNat_natCast, List.eraseIdx_eq_take_drop_succ]); refine ⟨_, rfl, ⟨fun k hk => ?_, ?_⟩, ⟨hgr.os.trans HBW.out.os, hgr.tape.trans HBW.out.tape, hgr.output.trans HBW.out.output, Nat.le_trans HBW.out.size hgr.size, fun k hk => (hgr.block k (Nat.lt_of_lt_of_le hk HBW.out.size) (by have := HG.out.1; simp; omega)).trans (HBW.out.block k hk)⟩, ⟨hgr.size, fun k hk hn => hgr.block k hk (fun e => hn (by injection e with e; rw [e]; exact HG.out.2.1))⟩⟩
     ·(simp [Value.ownBlock] at hk); subst hk; exact .inl HG.out.2.1
     ·(have hlen : (l0.eraseIdx ((i : Int)).toNat).length = i + d := by rw [hel, List.length_append, List.length_take, List.length_drop, HD.out]; omega); refine ⟨inner.take (i * 1) ++ news, by rw [hlen]; exact hO2.1, ?_⟩; rw [hel, HNW.out]; have ht := Kd.reps_take (m := i) HR.out (by rw [HD.out]; omega); have hd2 := Kd.reps_drop (m := i + 1) HR.out; (refine (Kd.reps_append ht hd2).imp_ fun p c hp => ?_); refine Kd.M_mono (Kd.int .i64) (fun k hk => ?_) (Kd.M_step hp (w1 := W2) fun k hk hlt => hgr.block k hlt (fun e => hk.2 (by rw [e]; rfl))); exact ⟨.inl hk.1, fun e => hk.2 (by rw [e]; rfl)⟩
   ·cases h
  ·cases h
 ·cases h
end Go.Proofs.Ytnbljcgdgblgoaa.P
end

section
namespace Go.Proofs.Ytnbljcgdgblgoaa.Cf
set_option linter.unusedVariables false
set_option linter.unusedSimpArgs false
open Go.RowKit Go.Proofs.YtnbljcgdgblgoaaW.PrintWords Go.Proofs.YtnbljcgdgblgoaaW.PrintLast Go.Proofs.YtnbljcgdgblgoaaW.PrintMore
/-- The rows' values rs and lists L; row j's blocks are okj j. -/
structure RowsO (e1 e : Nat) (w : World) (base : Nat) (okj : Nat → Nat → Prop) (v : Value) (rs : List Value) (L : List (List Int)) : Prop where
  len : rs.length = L.length
  own : w.ownsRow base e1 1 v L.length rs
  row : ∀ j x u, L[j]? = some x → rs[j]? = some u → Kd.R (Kd.int .i64) e w base (okj j) u x
  apart : ∀ i j k, okj i k → okj j k → i = j
  off : ∀ j k, okj j k → some k ≠ v.ownBlock
theorem rows_open {e1 e : Nat} {w : World} {base : Nat} {ok : Nat → Prop} {v : Value} {L : List (List Int)} (h : Kd.S (Kd.slice e (Kd.int .i64)) e1 w base ok v L) :
    ∃ okj rs, RowsO e1 e w base okj v rs L ∧ (∀ k, v.ownBlock = some k → ok k) ∧ ∀ j k, okj j k → ok k := by
  obtain ⟨f, h0, inner, ho, hr⟩ := h
  rw [List.length_zipIdx] at ho
  have hl : inner.length = L.length := by have := ho.1; simpa [Kd.tag, Kd.slice] using this
  refine ⟨fun j k => (ok k ∧ some k ≠ v.ownBlock) ∧ f k = j, inner, ⟨hl, ho, fun j x u hx hu => ?_, fun i j k hi hj => hi.2.symm.trans hj.2, fun j k hk => hk.1.2⟩, h0, fun j k hk => hk.1.1⟩
  have h1 := hr.2 j (x, j) (by rw [List.getElem?_zipIdx, hx]; simp)
  obtain ⟨v', hv', hR⟩ := h1
  have hs : (Kd.tag f (Kd.slice e (Kd.int .i64))).sz = 1 := rfl
  rw [hs, Nat.mul_one] at hv'
  have : inner[j]? = some v' := by
    have := congrArg (fun l => l[0]?) hv'
    simpa [List.getElem?_take, List.getElem?_drop] using this
  rw [hu] at this
  obtain rfl := Option.some.inj this
  exact hR
/-- The first i rows but for row q, element q left out. -/
def keepF (q : Nat) (L : List (List Int)) : Nat → List (List Int)
  | 0 => []
  | i + 1 => if i = q then keepF q L i else keepF q L i ++ [(L.getD i []).eraseIdx q]
theorem keepF_len (q : Nat) (L : List (List Int)) : ∀ i, (keepF q L i).length ≤ i
  | 0 => Nat.le_refl _
  | i + 1 => by
    have := keepF_len q L i
    unfold keepF
    split
    · omega
    · simp; omega
def redF (q : Int) (L : List (List Int)) : Option (List (List Int)) := if 0 ≤ q ∧ q ≤ 1000000 ∧ L.length ≤ 1000000 ∧ ∀ r ∈ L, q < (r.length : Int) then some (keepF q.toNat L L.length) else none
end Go.Proofs.Ytnbljcgdgblgoaa.Cf
end

section
namespace Go.Proofs.Ytnbljcgdgblgoaa.P
open Go.RowKit Go.Proofs.YtnbljcgdgblgoaaW.PrintWords Go.Proofs.YtnbljcgdgblgoaaW.PrintLast Go.Proofs.YtnbljcgdgblgoaaW.PrintMore
attribute [local go_sem] max2_int min2_int max_two min_two max_three min_three max_four min_four
set_option linter.unusedVariables false
set_option linter.unusedSimpArgs false
def impl_ReducedLaplacian.f (k : Nat) (a0_0 : Int) (l0_1 : List S57) (a1 : Int) : Option (List (List Int)) := (impl_isVertex.f a0_0 l0_1 a1).bind fun t => if t = true then (impl_LaplacianOf.f k a0_0 l0_1).bind fun L => Cf.redF a1 L else some []
theorem impl_ReducedLaplacian.mono : ∀ a0 a1 a2 k, LeO (impl_ReducedLaplacian.f k a0 a1 a2) (impl_ReducedLaplacian.f (k + 1) a0 a1 a2) := by
 intro a0 a1 a2 k; unfold impl_ReducedLaplacian.f; exact LeO.bind (LeO.refl _) fun t => LeO.ite (LeO.bind (impl_LaplacianOf.mono _ _ k) fun _ => LeO.refl _) (LeO.refl _)
set_option maxHeartbeats 4000000 in
set_option maxRecDepth 1000000 in
theorem impl_ReducedLaplacian.calls (k : Nat) (a0_0 : Int) (A0_1 : Option Addr) (c0_1 : Nat) (l0_1 : List S57) (a1 : Int) (r : List (List Int)) (w : World) (hr0_1 : Kd.C k57 w A0_1 l0_1.length l0_1) (hc0_1 : l0_1.length ≤ c0_1) (h : impl_ReducedLaplacian.f k a0_0 l0_1 a1 = some r) :
  Calls Try.prog 121 #[.agg #[.int .i64 a0_0, .slice A0_1 l0_1.length c0_1], .int .i64 a1] w fun e w' => ∃ v0_ : Value, e = .returned (v0_) ∧ Kd.S (Kd.slice 3 (Kd.int .i64)) 26 w' w.heap.size (fun _ => True) v0_ r ∧ Below w.heap.size w w' := by
 have hu30 := Try.underlying25; have HR := Aside0.mk hr0_1; have HC := Aside0.mk hc0_1; clear hr0_1 hc0_1; have H : ((impl_isVertex.f a0_0 l0_1 a1).bind fun t => if t = true then (impl_LaplacianOf.f k a0_0 l0_1).bind fun L => Cf.redF a1 L else some []) = some r := h; clear h; replace H := Option.bind_eq_some_iff.mp H; obtain ⟨t, hv, H⟩ := H; have HV := Aside0.mk hv; clear hv; have HB := Aside0.mk (below_alloc (Below.refl w.heap.size w) (.cells #[.int .i64 a0_0, .slice A0_1 l0_1.length c0_1] 25)); have BK := Aside0.mk (heap_alloc_new w (.cells #[.int .i64 a0_0, .slice A0_1 l0_1.length c0_1] 25))
 cases t with
 | false =>
  obtain rfl := Option.some.inj H; clear H; go_enter Try.func121, Try.ntmps121; (go_wp2_with fail); refine (impl_isVertex.calls _ _ _ l0_1 _ false _ (Kd.C_below HR.out HB.out) HC.out HV.out).mono ?_; rintro e w1 ⟨rfl, hb⟩; have HB1 := Aside0.mk (below_step HB.out hb); clear hb; go_wp2; go_ret; exact ⟨_, rfl, Kd.S_nil _ _ _ _ _, HB1.out⟩
 | true =>
  rw [if_pos rfl] at H; replace H := Option.bind_eq_some_iff.mp H; obtain ⟨L, hL, H⟩ := H; have HL := Aside0.mk hL; clear hL; unfold Cf.redF at H; split at H
  ·rename_i hq; obtain rfl := Option.some.inj H; clear H; obtain ⟨hq0, hq1, hq2, hq3⟩ := hq; obtain ⟨q, rfl⟩ := Int.eq_ofNat_of_zero_le hq0; rw [Int.toNat_natCast]; have HQ := Aside0.mk (show q ≤ 1000000 ∧ L.length ≤ 1000000 ∧ ∀ r ∈ L, q < r.length from ⟨by omega, hq2, fun r hr => by have := hq3 r hr; omega⟩); clear hq0 hq1 hq2 hq3; go_enter Try.func121, Try.ntmps121; (go_wp2_with fail); refine (impl_isVertex.calls _ _ _ l0_1 _ true _ (Kd.C_below HR.out HB.out) HC.out HV.out).mono ?_; rintro e w1 ⟨rfl, hb⟩; have HB1 := Aside0.mk (below_step HB.out hb); have BK1 := Aside0.mk (blk_below BK.out hb); clear hb; have hz0 : w1.cell? ⟨w.heap.size, 0, none⟩ = some (.int .i64 a0_0) := (blk_cell BK1.out 0).trans rfl; have hz1 : w1.cell? ⟨w.heap.size, 1, none⟩ = some (.slice A0_1 l0_1.length c0_1) := (blk_cell BK1.out 1).trans rfl; (go_wp2_with fail); refine (impl_LaplacianOf.calls k _ _ _ l0_1 L _ (Kd.C_below HR.out HB1.out) HC.out HL.out).mono ?_; rintro e w2 ⟨vL, rfl, hS, hb⟩; have HB2 := Aside0.mk (below_step HB1.out hb); obtain ⟨okj, rs, hO, _, hok⟩ := Cf.rows_open (Kd.S_bound hS); obtain ⟨AL, cL, eL, hcL, _⟩ := Kd.S_reads hS; have HO := Aside0.mk hO; have HSZ := Aside0.mk (show ∀ j k, okj j k → k < w2.heap.size from fun j k h => (hok j k h).2.2.1); have HW1 := Aside0.mk (below_size HB1.out); have HRow := Aside0.mk (show ∀ j x u, L[j]? = some x → rs[j]? = some u → Kd.R (Kd.int .i64) 3 w2 w.heap.size (okj j) u x from fun j x u hx hu => Kd.R_lower (hO.row j x u hx hu) (below_size HB1.out)); have HOL := Aside0.mk (show ∀ k, vL.ownBlock = some k → k < w2.heap.size from Kd.S_lt hS); subst eL; have hLl : L.length ≤ cL := hcL; clear hS hb hO hok hcL hz0 hz1; go_wp2; (go_loopw [5, 15] (fun v5 v15 wr => ∃ i : Nat, v15 = .int .i64 (i : Int) ∧ Aside0 (i ≤ L.length ∧ w2.heap.size ≤ wr.heap.size) ∧ Aside0 (Below w.heap.size w wr) ∧ Aside0 (∀ k, ((Value.slice AL L.length cL).ownBlock = some k ∨ ∃ j, i ≤ j ∧ okj j k) → wr.heap[k]? = w2.heap[k]?) ∧ Aside0 (Kd.S (Kd.slice 3 (Kd.int .i64)) 26 wr w.heap.size (fun k => (∃ j, j < i ∧ okj j k) ∨ w2.heap.size ≤ k) v5 (Cf.keepF q L i))) (fun _ v _ => L.length - (intOf v).toNat)); case atStart => exact ⟨0, rfl, ⟨Nat.zero_le _, Nat.le_refl _⟩, HB2, ⟨fun _ _ => rfl⟩, ⟨Kd.S_nil _ _ _ _ _⟩⟩
   case round =>
    obtain ⟨i, rfl, HI, HBr, HM, HS⟩ := hrel; by_cases hlt : i < L.length; rotate_left
    ·have c0 : decide ((i : Int) < (L.length : Int)) = false := decide_eq_false (by omega); (have hi : i = L.length := by have := HI.out; omega); subst hi; clear hlt; go_wp2; go_ret; exact ⟨_, rfl, Kd.S_mono HS.out (fun _ _ => trivial), HBr.out⟩
    have c0 : decide ((i : Int) < (L.length : Int)) = true := decide_eq_true (by omega); (have hil : i < rs.length := by rw [HO.out.len]; exact hlt); obtain ⟨x, hxi⟩ : ∃ x, L[i]? = some x := ⟨_, List.getElem?_eq_getElem hlt⟩; obtain ⟨u, hui⟩ : ∃ u, rs[i]? = some u := ⟨_, List.getElem?_eq_getElem hil⟩; have hR2 := HRow.out i _ _ hxi hui; have hown := HO.out.own; obtain ⟨gL, cap, hgL, hgb, hgc⟩ := hown.form (by omega); injection hgL with hA hn hc; subst hA; (have hcell2 : w2.cell? ⟨gL, i, none⟩ = some u := by have := hown.cells (g := gL) rfl i _ hui; rwa [add_plain] at this); have hsame : wr.heap[gL]? = w2.heap[gL]? := HM.out gL (.inl rfl); have hcell : wr.cell? ⟨gL, i, none⟩ = some u := (World.cell?_of_block (a := ⟨gL, i, none⟩) hsame).trans hcell2; (have hRr := Kd.R_move hR2 (w1 := wr) fun k hk => HM.out k (.inr ⟨i, Nat.le_refl _, hk⟩)); obtain ⟨Ai, ci, ei⟩ := Kd.R_slice hRr; rw [ei] at hcell hRr; have HRr := Aside0.mk hRr; (have p1 : (0 : Int) ≤ (i : Int) := by omega); (have p2 : (i : Int) < (L.length : Int) := by omega); (have hib : (i : Int) ≤ 1000000 := by have := HQ.out.2.1; omega); (have hq0 : (0 : Int) ≤ (q : Int) := by omega); (have hqb : (q : Int) ≤ 1000000 := by have := HQ.out.1; omega); have HLT := Aside0.mk hlt; have HXI := Aside0.mk hxi; have HGL := Aside0.mk (HOL.out gL rfl); clear hR2 hown hgb hgc hsame hcell2 hRr hxi hui hlt hil ei hn hc; by_cases hq : i = q
    ·(have c1 : ((i : Int) == (q : Int)) = true := by simp [hq]); (have c2 : ((i : Int) != (q : Int)) = false := by simp [hq]); have HQI := Aside0.mk hq; clear hq; go_wp2; go_roundw
     case rel =>
      refine ⟨i + 1, by go_num, ⟨by have := HLT.out; omega, HI.out.2⟩, HBr, ⟨fun k hk => HM.out k (hk.imp_right fun ⟨j, hj, h⟩ => ⟨j, by omega, h⟩)⟩, ⟨?_⟩⟩; have e : Cf.keepF q L (i + 1) = Cf.keepF q L i := if_pos HQI.out; rw [e]; exact Kd.S_mono HS.out fun k hk => hk.imp_left fun ⟨j, hj, h⟩ => ⟨j, by omega, h⟩
     case measure =>
      have := HLT.out; (simp [intOf]); omega
    (have c1 : ((i : Int) == (q : Int)) = false := by simp; omega); (have c2 : ((i : Int) != (q : Int)) = true := by simp; omega); have HQI := Aside0.mk hq; clear hq; (go_wp2_with fail); refine (slices_Delete_int_int.calls (okj i) _ x (q : Int) _ (x.eraseIdx q) w wr HBr.out HRr.out ?hd).mono ?_
    case hd =>
     have hql : q < x.length := HQ.out.2.2 x (List.mem_of_getElem? HXI.out); unfold slices_Delete_int_int.f; rw [if_pos (by omega), if_pos (by omega), if_pos rfl, Int.toNat_natCast]
    rintro e w3 ⟨vD, rfl, hD, hb3, hk3⟩; obtain ⟨Ad, cd, ed⟩ := Kd.R_slice hD; subst ed; have HD := Aside0.mk hD; have HB3 := Aside0.mk hb3; have HK3 := Aside0.mk hk3; clear hD hb3 hk3; have HSr := Aside0.mk (Kd.S_mono (ok' := fun k => (((∃ j, j < i + 1 ∧ okj j k) ∨ w2.heap.size ≤ k) ∧ ¬ (okj i k ∨ wr.heap.size ≤ k))) (Kd.S_step (Kd.S_bound HS.out) (w1 := w3) fun k hk hlt => HK3.out.2 k hlt fun hi => hk.1.elim (fun ⟨j, hj, h⟩ => by have := HO.out.apart j i k h hi; omega) (fun h => by have := HSZ.out i k hi; omega)) fun k hk => ⟨hk.1.imp_left fun ⟨j, hj, h⟩ => ⟨j, by omega, h⟩, fun h => h.elim (fun hi => hk.1.elim (fun ⟨j, hj, h⟩ => by have := HO.out.apart j i k h hi; omega) (fun h => by have := HSZ.out i k hi; omega)) (fun h => by have := hk.2.2.1; omega)⟩); have HKL := Aside0.mk (Cf.keepF_len q L i); (go_wp2_with (first | ((with_reducible refine gate_builtin (b := .append) (xs := #[.tmp 23, .tmp 29]) rfl ?_); at_builtin; refine Kd.S_append (Kd.slice 3 (Kd.int .i64)) (w0 := w) w.heap.size rfl (.tmp 23) (.tmp 29) 34 26 (.slice none 0 0) 24 rfl Try.underlying34 info26 rfl (by decide) (by omega) u5 (Cf.keepF q L i) (x.eraseIdx q) [.slice Ad (x.eraseIdx q).length cd] (fun k => (∃ j, j < i + 1 ∧ okj j k) ∨ w2.heap.size ≤ k) (fun k => okj i k ∨ wr.heap.size ≤ k) rfl rfl ?aP ?aK ?aF ?aO ?aB ?aS ?aL ?_; (case aP => exact Kd.M_row HD.out); (case aK => exact fun k hk => ⟨hk.elim (fun h => .inl ⟨i, by omega, h⟩) (fun h => .inr (by have := HI.out.2; omega)), fun e => (HSr.out.choose_spec.1 k e.symm).2 hk⟩); (case aF => exact fun k hk => .inr (by have := HI.out.2; have := HK3.out.1; omega)); (case aO => exact HSr.out); (case aB => exact HB3.out); (case aS => exact below_size HB3.out); (case aL => have := HKL.out; have := HQ.out.2.1; have := HLT.out; omega); intro v1 w4 ho hb hg hat; have HS4 := Aside0.mk ho; have HB4 := Aside0.mk hb; have HG4 := Aside0.mk hg; clear ho hb hg hat))); go_roundw
    case rel =>
     refine ⟨i + 1, by go_num, ⟨by have := HLT.out; omega, by have := HI.out.2; have := HK3.out.1; have := HG4.out.size; omega⟩, HB4, ⟨fun k hk => ?_⟩, ⟨?_⟩⟩
     ·have hk2 : k < w2.heap.size ∧ ¬ (∃ j, j < i + 1 ∧ okj j k) := by
       rcases hk with hk | ⟨j, hj, h⟩
       ·(have : k = gL := by simpa [Value.ownBlock] using hk.symm); subst this; exact ⟨HGL.out, fun ⟨j, _, h⟩ => HO.out.off j k h rfl⟩
       ·exact ⟨HSZ.out j k h, fun ⟨j', hj', h'⟩ => by have := HO.out.apart j j' k h h'; omega⟩
      have hkr : k < wr.heap.size := Nat.lt_of_lt_of_le hk2.1 HI.out.2; (have h1 := HG4.out.block k (Nat.lt_of_lt_of_le hkr HK3.out.1) fun e => (HSr.out.choose_spec.1 k e.symm).1.elim hk2.2 fun h => by have := hk2.1; omega); (have h2 := HK3.out.2 k hkr fun h => hk2.2 ⟨i, by omega, h⟩); exact h1.trans (h2.trans (HM.out k (hk.imp_right fun ⟨j, hj, h⟩ => ⟨j, by omega, h⟩)))
     ·have e : Cf.keepF q L (i + 1) = Cf.keepF q L i ++ [x.eraseIdx q] := by
       show (if i = q then _ else _) = _; rw [if_neg HQI.out, List.getD_eq_getElem?_getD, HXI.out]; rfl
      rw [e]; exact HS4.out
    case measure =>
     have := HLT.out; (simp [intOf]); omega
  ·cases H
def impl_CountTrees.f (k : Nat) (a0_0 : Int) (l0_1 : List (S57)) : Option (Int) := (impl_GraphOk.f a0_0 l0_1).bind fun t102 => (if t102 = true then ((impl_ReducedLaplacian.f k a0_0 l0_1 0).bind fun t103 => ((impl_Determinant.f k t103).bind fun t106 => (some t106))) else (some 0))
theorem impl_CountTrees.mono : ∀ a0 a1 k, LeO (impl_CountTrees.f k a0 a1) (impl_CountTrees.f (k + 1) a0 a1) := by
 intro a0 a1 k; unfold impl_CountTrees.f; repeat' first | (with_reducible apply impl_Determinant.mono) | (with_reducible apply impl_ReducedLaplacian.mono) | (with_reducible exact LeO.refl _) | (with_reducible exact LeO.none _) | (with_reducible refine LeO.ite ?_ ?_) | (with_reducible refine LeO.bind ?_ (fun _ => ?_)) | apply impl_Determinant.mono | apply impl_ReducedLaplacian.mono | exact LeO.none _ | refine LeO.ite ?_ ?_ | refine LeO.bind ?_ (fun _ => ?_)
set_option maxHeartbeats 8000000 in
set_option maxRecDepth 100000 in
theorem impl_CountTrees.calls (k : Nat) (a0_0 : Int) (A0_1 : Option Addr) (c0_1 : Nat) (l0_1 : List (S57)) (r : Int) (w : World) (hr0_1 : Kd.C k57 w A0_1 l0_1.length l0_1) (hc0_1 : l0_1.length ≤ c0_1) (h : impl_CountTrees.f k a0_0 l0_1 = some r) :
  Calls Try.prog 85 #[.agg #[.int .i64 a0_0, .slice A0_1 l0_1.length c0_1]] w fun e w' => e = .returned (.int .i64 r) ∧ Below w.heap.size w w' := by
 have hu25 := Try.underlying25; have HR0_1 := Aside0.mk hr0_1; have HC0_1 := Aside0.mk hc0_1; clear hr0_1 hc0_1; have HB := Aside0.mk (Below.refl w.heap.size w); have H : ((impl_GraphOk.f a0_0 l0_1).bind fun t102 => (if t102 = true then ((impl_ReducedLaplacian.f k a0_0 l0_1 0).bind fun t103 => ((impl_Determinant.f k t103).bind fun t106 => (some t106))) else (some 0))) = some r := h; clear h; replace H := Option.bind_eq_some_iff.mp H; obtain ⟨t102, A20, H⟩ := H; (try dsimp only at H); have A2 := Aside0.mk A20; clear A20; by_cases c3 : t102 = true; rotate_left
 ·replace c3 := Bool.eq_false_iff.mpr c3; subst c3; rw [if_neg (show ¬ (false = true) by decide)] at H; obtain rfl := Option.some.inj H; go_enter Try.func85, Try.ntmps85; (go_wp2_with (first | ((with_reducible refine gate_dst (N := 1) rfl ?_); refine box_event ?hg (N := 1) ?hd (cs := #[.int .i64 a0_0, .slice A0_1 l0_1.length c0_1]) (t := 25) ?hr ?_; (case hd => rfl); (case hg => rfl); (case hr => exact zz9); intro gb101 hg w13 hbox hb; have n_ := zA4 (below_step zz1 hb) hbox (zz10 : w.heap.size ≤ gb101) (zz10 : w.heap.size ≤ gb101); clear HB; obtain ⟨HB, BK101, GW101, GE101⟩ := n_; clear hb hbox hg; have hcz14_0 := zC20 BK101; have hcz14_1 := zC21 BK101; have hfz14_0 := blk_frozen BK101.out 0; have hfz14_1 := blk_frozen BK101.out 1) | ((with_reducible refine gate_callee (f := 50) rfl ?_); refine goesL_ (some 4) rfl rfl Try.func50 (by kernel_rfl) rfl #[.agg #[.int .i64 a0_0, .slice A0_1 l0_1.length c0_1]] rfl zz4 ?_; (with_reducible refine (impl_GraphOk.calls a0_0 _ _ l0_1 false _ ?side1 ?side2 A2.out).mono ?_); (case side1 => exact zz6); (case side2 => exact HC0_1.out); rintro e w15 ⟨rfl, hb⟩; refine ⟨_, rfl, ?_⟩; have n_ := zA2 (blk_below (g := gb101) (o := .cells #[.int .i64 a0_0, .slice A0_1 l0_1.length c0_1] 25 (0, 0)) zz2 hb) (below_step zz0 hb); clear BK101 HB; obtain ⟨BK101, HB⟩ := n_; clear hb))); go_ret; exact ⟨zz7, zz0⟩
 subst c3; rw [if_pos rfl] at H; replace H := Option.bind_eq_some_iff.mp H; obtain ⟨t103, A40, H⟩ := H; (try dsimp only at H); have A4 := Aside0.mk A40; clear A40; replace H := Option.bind_eq_some_iff.mp H; obtain ⟨t106, A50, H⟩ := H; (try dsimp only at H); have A5 := Aside0.mk A50; clear A50; obtain rfl := Option.some.inj H; go_enter Try.func85, Try.ntmps85; (go_wp2_with (first | ((with_reducible refine gate_dst (N := 1) rfl ?_); refine box_event ?hg (N := 1) ?hd (cs := #[.int .i64 a0_0, .slice A0_1 l0_1.length c0_1]) (t := 25) ?hr ?_; (case hd => rfl); (case hg => rfl); (case hr => exact zz9); intro gb101 hg w6 hbox hb; have n_ := zA4 (below_step zz1 hb) hbox (zz10 : w.heap.size ≤ gb101) (zz10 : w.heap.size ≤ gb101); clear HB; obtain ⟨HB, BK101, GW101, GE101⟩ := n_; clear hb hbox hg; have hcz7_0 := zC20 BK101; have hcz7_1 := zC21 BK101; have hfz7_0 := blk_frozen BK101.out 0; have hfz7_1 := blk_frozen BK101.out 1) | ((with_reducible refine gate_callee (f := 50) rfl ?_); refine goesL_ (some 4) rfl rfl Try.func50 (by kernel_rfl) rfl #[.agg #[.int .i64 a0_0, .slice A0_1 l0_1.length c0_1]] rfl zz4 ?_; (with_reducible refine (impl_GraphOk.calls a0_0 _ _ l0_1 true _ ?side1 ?side2 A2.out).mono ?_); (case side1 => exact zz6); (case side2 => exact HC0_1.out); rintro e w8 ⟨rfl, hb⟩; refine ⟨_, rfl, ?_⟩; have n_ := zA2 (blk_below (g := gb101) (o := .cells #[.int .i64 a0_0, .slice A0_1 l0_1.length c0_1] 25 (0, 0)) zz2 hb) (below_step zz0 hb); clear BK101 HB; obtain ⟨BK101, HB⟩ := n_; clear hb; have hcz9_0 := zC20 BK101; have hcz9_1 := zC21 BK101; have hfz9_0 := blk_frozen BK101.out 0; have hfz9_1 := blk_frozen BK101.out 1) | ((with_reducible refine gate_callee (f := 121) rfl ?_); refine goesL_ (some 7) rfl rfl Try.func121 (by kernel_rfl) rfl #[.agg #[.int .i64 a0_0, .slice A0_1 l0_1.length c0_1], .int .i64 0] rfl zz4 ?_; (with_reducible refine (impl_ReducedLaplacian.calls k a0_0 _ _ l0_1 0 t103 _ ?side1 ?side2 A4.out).mono ?_); (case side1 => exact zz6); (case side2 => exact HC0_1.out); rintro e w10 ⟨v104, rfl, ho0, hb⟩; refine ⟨_, rfl, ?_⟩; have n_ := zA3 (Kd.S_lower ho0 (below_size zz0)) (blk_below (g := gb101) (o := .cells #[.int .i64 a0_0, .slice A0_1 l0_1.length c0_1] 25 (0, 0)) zz2 hb) (below_step zz0 hb); clear BK101 HB; obtain ⟨HO105, BK101, HB⟩ := n_; clear ho0 hb; obtain ⟨Ao11, co11, eo11⟩ := Kd.S_slice HO105.out; subst eo11) | ((with_reducible refine gate_callee (f := 120) rfl ?_); refine goesL_ (some 8) rfl rfl Try.func120 (by kernel_rfl) rfl #[.slice Ao11 t103.length co11] rfl zz4 ?_; (with_reducible refine (impl_Determinant.calls k _ _ t103 t106 _ ?side1 ?side2 A5.out).mono ?_); (case side1 => repeat (first | exact (Kd.S_reads' HO105.out).2.2 | (with_reducible refine Kd.C_alloc ?_ _) | (with_reducible refine Kd.C_drewN ?_ _) | (with_reducible refine Kd.C_drew ?_))); (case side2 => exact (Kd.S_reads' HO105.out).2.1); rintro e w12 ⟨rfl, hb⟩; refine ⟨_, rfl, ?_⟩; have n_ := zA3 (Kd.S_below (by (with_reducible repeat (first | apply Kd.S_alloc | apply Kd.S_drewN | apply Kd.S_drew)); exact HO105.out) hb) (blk_below (g := gb101) (o := .cells #[.int .i64 a0_0, .slice A0_1 l0_1.length c0_1] 25 (0, 0)) zz2 hb) (below_step zz0 hb); clear HO105 BK101 HB; obtain ⟨HO105, BK101, HB⟩ := n_; clear hb))); go_ret; exact ⟨zz7, zz0⟩
def impl_GroupOrder.f (k : Nat) (a0_0 : Int) (l0_1 : List (S57)) : Option (Int) := (impl_CountTrees.f k a0_0 l0_1).bind fun t102 => (some t102)
theorem impl_GroupOrder.mono : ∀ a0 a1 k, LeO (impl_GroupOrder.f k a0 a1) (impl_GroupOrder.f (k + 1) a0 a1) := by
 intro a0 a1 k; unfold impl_GroupOrder.f; repeat' first | (with_reducible apply impl_CountTrees.mono) | (with_reducible exact LeO.refl _) | (with_reducible exact LeO.none _) | (with_reducible refine LeO.ite ?_ ?_) | (with_reducible refine LeO.bind ?_ (fun _ => ?_)) | apply impl_CountTrees.mono | exact LeO.none _ | refine LeO.ite ?_ ?_ | refine LeO.bind ?_ (fun _ => ?_)
set_option maxHeartbeats 8000000 in
set_option maxRecDepth 100000 in
theorem impl_GroupOrder.calls (k : Nat) (a0_0 : Int) (A0_1 : Option Addr) (c0_1 : Nat) (l0_1 : List (S57)) (r : Int) (w : World) (hr0_1 : Kd.C k57 w A0_1 l0_1.length l0_1) (hc0_1 : l0_1.length ≤ c0_1) (h : impl_GroupOrder.f k a0_0 l0_1 = some r) :
  Calls Try.prog 48 #[.agg #[.int .i64 a0_0, .slice A0_1 l0_1.length c0_1]] w fun e w' => e = .returned (.int .i64 r) ∧ Below w.heap.size w w' := by
 have hu25 := Try.underlying25; have HR0_1 := Aside0.mk hr0_1; have HC0_1 := Aside0.mk hc0_1; clear hr0_1 hc0_1; have HB := Aside0.mk (Below.refl w.heap.size w); have H : ((impl_CountTrees.f k a0_0 l0_1).bind fun t102 => (some t102)) = some r := h; clear h; replace H := Option.bind_eq_some_iff.mp H; obtain ⟨t102, A20, H⟩ := H; (try dsimp only at H); have A2 := Aside0.mk A20; clear A20; obtain rfl := Option.some.inj H; go_enter Try.func48, Try.ntmps48; (go_wp2_with (first | ((with_reducible refine gate_dst (N := 1) rfl ?_); refine box_event ?hg (N := 1) ?hd (cs := #[.int .i64 a0_0, .slice A0_1 l0_1.length c0_1]) (t := 25) ?hr ?_; (case hd => rfl); (case hg => rfl); (case hr => exact zz9); intro gb101 hg w3 hbox hb; have n_ := zA4 (below_step zz1 hb) hbox (zz10 : w.heap.size ≤ gb101) (zz10 : w.heap.size ≤ gb101); clear HB; obtain ⟨HB, BK101, GW101, GE101⟩ := n_; clear hb hbox hg; have hcz4_0 := zC20 BK101; have hcz4_1 := zC21 BK101; have hfz4_0 := blk_frozen BK101.out 0; have hfz4_1 := blk_frozen BK101.out 1) | ((with_reducible refine gate_callee (f := 85) rfl ?_); refine goesL_ (some 4) rfl rfl Try.func85 (by kernel_rfl) rfl #[.agg #[.int .i64 a0_0, .slice A0_1 l0_1.length c0_1]] rfl zz4 ?_; (with_reducible refine (impl_CountTrees.calls k a0_0 _ _ l0_1 t102 _ ?side1 ?side2 A2.out).mono ?_); (case side1 => exact zz6); (case side2 => exact HC0_1.out); rintro e w5 ⟨rfl, hb⟩; refine ⟨_, rfl, ?_⟩; have n_ := zA2 (blk_below (g := gb101) (o := .cells #[.int .i64 a0_0, .slice A0_1 l0_1.length c0_1] 25 (0, 0)) zz2 hb) (below_step zz0 hb); clear BK101 HB; obtain ⟨BK101, HB⟩ := n_; clear hb))); go_ret; exact ⟨zz7, zz0⟩
def slices_Index_int_int.l0 : Nat → List Int → Int → Int → Int → Option (Int)
 | 0, _, _, _, _ => none
 | k + 1, x0, x1, x7, x8 => if x8 < x7 then (if 0 ≤ x8 then (if x8 < (x0.length : Int) then (if x1 = (rd x0 x8) then (some x8) else (slices_Index_int_int.l0 k x0 x1 x7 (wrap64 (x8 + 1)))) else (none)) else (none)) else (some (-1))
def slices_Index_int_int.f (k : Nat) (l0 : List Int) (a1 : Int) : Option (Int) := slices_Index_int_int.l0 k l0 a1 (l0.length : Int) 0
theorem slices_Index_int_int.mono_l : ∀ k, (∀ y0 y1 y2 y3, LeO (slices_Index_int_int.l0 k y0 y1 y2 y3) (slices_Index_int_int.l0 (k + 1) y0 y1 y2 y3))
 | 0 => fun _ _ _ _ r h => by simp [slices_Index_int_int.l0] at h
 | k + 1 => by
  have ih0 := slices_Index_int_int.mono_l k
  ·intro y0 y1 y2 y3
   unfold slices_Index_int_int.l0
   exact zm0
theorem slices_Index_int_int.mono : ∀ a0 a1 k, LeO (slices_Index_int_int.f k a0 a1) (slices_Index_int_int.f (k + 1) a0 a1) := by
 intro a0 a1 k; have ih0 := slices_Index_int_int.mono_l k; unfold slices_Index_int_int.f; exact zm0
set_option maxHeartbeats 8000000 in
set_option maxRecDepth 100000 in
theorem slices_Index_int_int.calls (k : Nat) (A0 : Option Addr) (c0 : Nat) (l0 : List Int) (a1 : Int) (r : Int) (w : World) (hr0 : Kd.C (Kd.int .i64) w A0 l0.length l0) (hc0 : l0.length ≤ c0) (h : slices_Index_int_int.f k l0 a1 = some r) :
  Calls Try.prog 80 #[.slice A0 l0.length c0, .int .i64 a1] w fun e w' => e = .returned (.int .i64 r) ∧ Drawn0 w w' := by
 have HR0 := Aside0.mk hr0; have HC0 := Aside0.mk hc0; clear hr0 hc0; have H : (slices_Index_int_int.l0 k l0 a1 (l0.length : Int) 0) = some r := h; clear h; have H' := Aside0.mk H; clear H; go_enter Try.func80, Try.ntmps80; go_wp2; (go_loopg [8] k (fun kq v8 w' => ∃ (x8_1 : Int), v8 = .int .i64 x8_1 ∧ Aside0 (slices_Index_int_int.l0 kq l0 a1 (l0.length : Int) x8_1 = some r) ∧ Aside0 (kq ≤ k) ∧ Drawn0 w w')); case atStart => exact ⟨(0), zz5, H', ⟨Nat.le_refl _⟩, by repeat (first | exact Drawn0.refl _ | apply Drawn0.step)⟩
 case round =>
  clear H'; (try clear p2); obtain ⟨x8_1, rfl, HA, HK1, ⟨m1, rfl⟩⟩ := hrel
  cases gk with
  | zero => exact absurd HA.out (by simp [slices_Index_int_int.l0])
  | succ k1 =>
   have H := HA.out; clear HA; simp only [slices_Index_int_int.l0] at H; by_cases c3 : x8_1 < (l0.length : Int); rotate_left
   ·rw [if_neg c3] at H; have c3b0 := decide_eq_false c3; clear c3; obtain rfl := Option.some.inj H; go_wp2; go_ret; exact ⟨zz5, by repeat (first | exact Drawn0.refl _ | apply Drawn0.step)⟩
   rw [if_pos c3] at H; have c3b0 := decide_eq_true c3; clear c3; by_cases c4 : 0 ≤ x8_1; rotate_left
   ·rw [if_neg c4] at H; exact absurd H (by simp)
   rw [if_pos c4] at H; have c4b0 := decide_eq_true c4; clear c4; by_cases c5 : x8_1 < (l0.length : Int); rotate_left
   ·rw [if_neg c5] at H; exact absurd H (by simp)
   rw [if_pos c5] at H; have c5b0 := decide_eq_true c5; clear c5; by_cases c6 : a1 = (rd l0 x8_1)
   ·rw [if_pos c6] at H; have c6b0 : (a1 == (rd l0 x8_1)) = true := beq_iff_eq.mpr c6; have c6b1 : (a1 != (rd l0 x8_1)) = false := bne_eq_false_iff_eq.mpr c6; clear c6; obtain rfl := Option.some.inj H; have p101 : 0 ≤ (x8_1 : Int) := of_decide_eq_true zz3; have q101 : x8_1 < (l0.length : Int) := of_decide_eq_true zz3; obtain ⟨ad101, e101, hx101_0⟩ := Kd.at_int HR0.out x8_1 p101 q101; cases e101; replace p101 := eq_true p101; replace q101 := eq_true q101; go_wp2; go_ret; exact ⟨zz5, by repeat (first | exact Drawn0.refl _ | apply Drawn0.step)⟩
   rw [if_neg c6] at H; have c6b0 : (a1 == (rd l0 x8_1)) = false := beq_eq_false_iff_ne.mpr c6; have c6b1 : (a1 != (rd l0 x8_1)) = true := bne_iff_ne.mpr c6; have H' := Aside0.mk H; clear H; have p101 : 0 ≤ (x8_1 : Int) := of_decide_eq_true zz3; have q101 : x8_1 < (l0.length : Int) := of_decide_eq_true zz3; obtain ⟨ad101, e101, hx101_0⟩ := Kd.at_int HR0.out x8_1 p101 q101; cases e101; replace p101 := eq_true p101; replace q101 := eq_true q101; go_wp2; go_roundg k1; (case measure => have := HK1.out; omega); case rel => exact ⟨(wrap64 (x8_1 + 1)), zz5, H', ⟨zz36⟩, by repeat (first | exact Drawn0.refl _ | apply Drawn0.step)⟩
def slices_Contains_int_int.f (k : Nat) (l0 : List Int) (a1 : Int) : Option (Bool) := (slices_Index_int_int.f k l0 a1).bind fun t101 => (some (decide (t101 ≥ 0)))
theorem slices_Contains_int_int.mono : ∀ a0 a1 k, LeO (slices_Contains_int_int.f k a0 a1) (slices_Contains_int_int.f (k + 1) a0 a1) := by
 intro a0 a1 k; unfold slices_Contains_int_int.f; repeat' first | (with_reducible apply slices_Index_int_int.mono) | (with_reducible exact LeO.refl _) | (with_reducible exact LeO.none _) | (with_reducible refine LeO.ite ?_ ?_) | (with_reducible refine LeO.bind ?_ (fun _ => ?_)) | apply slices_Index_int_int.mono | exact LeO.none _ | refine LeO.ite ?_ ?_ | refine LeO.bind ?_ (fun _ => ?_)
set_option maxHeartbeats 8000000 in
set_option maxRecDepth 100000 in
theorem slices_Contains_int_int.calls (k : Nat) (A0 : Option Addr) (c0 : Nat) (l0 : List Int) (a1 : Int) (r : Bool) (w : World) (hr0 : Kd.C (Kd.int .i64) w A0 l0.length l0) (hc0 : l0.length ≤ c0) (h : slices_Contains_int_int.f k l0 a1 = some r) :
  Calls Try.prog 43 #[.slice A0 l0.length c0, .int .i64 a1] w fun e w' => e = .returned (.bool r) ∧ Drawn0 w w' := by
 have HR0 := Aside0.mk hr0; have HC0 := Aside0.mk hc0; clear hr0 hc0; have H : ((slices_Index_int_int.f k l0 a1).bind fun t101 => (some (decide (t101 ≥ 0)))) = some r := h; clear h; replace H := Option.bind_eq_some_iff.mp H; obtain ⟨t101, A30, H⟩ := H; (try dsimp only at H); have A3 := Aside0.mk A30; clear A30; obtain rfl := Option.some.inj H; go_enter Try.func43, Try.ntmps43; (go_wp2_with (first | ((with_reducible refine gate_callee (f := 80) rfl ?_); refine goesL_ (some 7) rfl rfl Try.func80 (by kernel_rfl) rfl #[.slice A0 l0.length c0, .int .i64 a1] rfl zz4 ?_; (with_reducible refine (slices_Index_int_int.calls k _ _ l0 a1 t101 _ ?side1 ?side2 A3.out).mono ?_); (case side1 => exact zz25); (case side2 => exact HC0.out); rintro e w' ⟨rfl, ⟨nd, rfl⟩⟩; refine ⟨_, rfl, ?_⟩))); go_ret; exact ⟨zz5, by repeat (first | exact Drawn0.refl _ | apply Drawn0.step)⟩
mutual
def impl_burn.l0 : Nat → List Int → List Int → Int → List (S57) → Option (List Int)
 | 0, _, _, _, _ => none
 | k + 1, x1, x7, x102000, x102001 => impl_burn.l1 k x1 x7 (-1) 0 x102000 x102001
def impl_burn.l1 : Nat → List Int → List Int → Int → Int → Int → List (S57) → Option (List Int)
 | 0, _, _, _, _, _, _ => none
 | k + 1, x1, x7, x8, x9, x102000, x102001 => if x9 < x102000 then (impl_burn.j2 k x1 x7 x8 x9 (decide (x8 < 0)) x102000 x102001) else (impl_burn.j2 k x1 x7 x8 x9 false x102000 x102001)
def impl_burn.j2 : Nat → List Int → List Int → Int → Int → Bool → Int → List (S57) → Option (List Int)
 | 0, _, _, _, _, _, _, _ => none
 | k + 1, x1, x7, x8, x9, x22, x102000, x102001 => if x22 = true then (impl_burn.l2 k x1 x7 x8 x9 0 x7 (x7.length : Int) 0 x102000 x102001) else (if x8 < 0 then (some x7) else (if x7.length < 17592186044416 then (impl_burn.l0 k x1 (x7 ++ [x8]) x102000 x102001) else (none)))
def impl_burn.l2 : Nat → List Int → List Int → Int → Int → Int → List Int → Int → Int → Int → List (S57) → Option (List Int)
 | 0, _, _, _, _, _, _, _, _, _, _ => none
 | k + 1, x1, x7, x8, x9, x10, x25, x26, x27, x102000, x102001 => if x27 < x26 then (if 0 ≤ x27 then (if x27 < (x25.length : Int) then ((impl_Multiplicity.f k x102000 x102001 x9 (rd x25 x27)).bind fun t109 => (impl_burn.l2 k x1 x7 x8 x9 (wrap64 (x10 + t109)) x25 x26 (wrap64 (x27 + 1)) x102000 x102001)) else (none)) else (none)) else ((slices_Contains_int_int.f k x7 x9).bind fun t110 => (if t110 = true then (impl_burn.l1 k x1 x7 x8 (wrap64 (x9 + 1)) x102000 x102001) else (if 0 ≤ x9 then (if x9 < (x1.length : Int) then (if (rd x1 x9) < x10 then (impl_burn.l1 k x1 x7 x9 (wrap64 (x9 + 1)) x102000 x102001) else (impl_burn.l1 k x1 x7 x8 (wrap64 (x9 + 1)) x102000 x102001)) else (none)) else (none))))
end
def impl_burn.f (k : Nat) (a0_0 : Int) (l0_1 : List (S57)) (l1 : List Int) (a2 : Int) : Option (List Int) := impl_burn.l0 k l1 (([a2] : List Int)) a0_0 l0_1
theorem impl_burn.mono_l : ∀ k, (∀ y0 y1 y2 y3, LeO (impl_burn.l0 k y0 y1 y2 y3) (impl_burn.l0 (k + 1) y0 y1 y2 y3)) ∧ (∀ y0 y1 y2 y3 y4 y5, LeO (impl_burn.l1 k y0 y1 y2 y3 y4 y5) (impl_burn.l1 (k + 1) y0 y1 y2 y3 y4 y5)) ∧ (∀ y0 y1 y2 y3 y4 y5 y6, LeO (impl_burn.j2 k y0 y1 y2 y3 y4 y5 y6) (impl_burn.j2 (k + 1) y0 y1 y2 y3 y4 y5 y6)) ∧ (∀ y0 y1 y2 y3 y4 y5 y6 y7 y8 y9, LeO (impl_burn.l2 k y0 y1 y2 y3 y4 y5 y6 y7 y8 y9) (impl_burn.l2 (k + 1) y0 y1 y2 y3 y4 y5 y6 y7 y8 y9))
 | 0 => ⟨fun _ _ _ _ r h => by simp [impl_burn.l0] at h, fun _ _ _ _ _ _ r h => by simp [impl_burn.l1] at h, fun _ _ _ _ _ _ _ r h => by simp [impl_burn.j2] at h, fun _ _ _ _ _ _ _ _ _ _ r h => by simp [impl_burn.l2] at h⟩
 | k + 1 => by
  obtain ⟨ih0, ih1, ih2, ih3⟩ := impl_burn.mono_l k
  refine ⟨?_, ?_, ?_, ?_⟩
  ·intro y0 y1 y2 y3
   unfold impl_burn.l0
   exact zm2
  ·intro y0 y1 y2 y3 y4 y5
   unfold impl_burn.l1
   exact zm2
  ·intro y0 y1 y2 y3 y4 y5 y6
   unfold impl_burn.j2
   exact zm2
  ·intro y0 y1 y2 y3 y4 y5 y6 y7 y8 y9
   unfold impl_burn.l2
   exact zm2
theorem impl_burn.mono : ∀ a0 a1 a2 a3 k, LeO (impl_burn.f k a0 a1 a2 a3) (impl_burn.f (k + 1) a0 a1 a2 a3) := by
 intro a0 a1 a2 a3 k; obtain ⟨ih0, ih1, ih2, ih3⟩ := impl_burn.mono_l k; unfold impl_burn.f; exact zm2
set_option maxHeartbeats 8000000 in
set_option maxRecDepth 100000 in
theorem impl_burn.calls (k : Nat) (a0_0 : Int) (A0_1 : Option Addr) (c0_1 : Nat) (l0_1 : List (S57)) (A1 : Option Addr) (c1 : Nat) (l1 : List Int) (a2 : Int) (r : List Int) (w : World) (hr0_1 : Kd.C k57 w A0_1 l0_1.length l0_1) (hc0_1 : l0_1.length ≤ c0_1) (hr1 : Kd.C (Kd.int .i64) w A1 l1.length l1) (hc1 : l1.length ≤ c1) (h : impl_burn.f k a0_0 l0_1 l1 a2 = some r) :
  Calls Try.prog 89 #[.agg #[.int .i64 a0_0, .slice A0_1 l0_1.length c0_1], .slice A1 l1.length c1, .int .i64 a2] w fun e w' => ∃ v0_ : Value, e = .returned (v0_) ∧ Kd.R (Kd.int .i64) 3 w' w.heap.size (fun _ => True) v0_ r ∧ Below w.heap.size w w' := by
 have hu25 := Try.underlying25; have HR0_1 := Aside0.mk hr0_1; have HC0_1 := Aside0.mk hc0_1; clear hr0_1 hc0_1; have HR1 := Aside0.mk hr1; have HC1 := Aside0.mk hc1; clear hr1 hc1; have HB := Aside0.mk (Below.refl w.heap.size w); have H : (impl_burn.l0 k l1 (([a2] : List Int)) a0_0 l0_1) = some r := h; clear h; obtain ⟨y102, hy_⟩ : ∃ y_ : List Int, y_ = (([a2] : List Int)) := ⟨_, rfl⟩; (replace H : (impl_burn.l0 k l1 y102 a0_0 l0_1) = some r := zzY); have Ny102 := Aside0.mk hy_; clear hy_; have H' := Aside0.mk H; clear H; go_enter Try.func89, Try.ntmps89; (go_wp2_with (first | ((with_reducible refine gate_dst (N := 3) rfl ?_); refine box_event ?hg (N := 3) ?hd (cs := #[.int .i64 a0_0, .slice A0_1 l0_1.length c0_1]) (t := 25) ?hr ?_; (case hd => rfl); (case hg => rfl); (case hr => exact zz9); intro gb101 hg w4 hbox hb; have n_ := zA4 (below_step zz1 hb) hbox (zz10 : w.heap.size ≤ gb101) (zz10 : w.heap.size ≤ gb101); clear HB; obtain ⟨HB, BK101, GW101, GE101⟩ := n_; clear hb hbox hg) | ((with_reducible refine gate_dst (N := 14) rfl ?_); refine Kd.R_lit (Kd.int .i64) _ 3 ?hg (N := 14) ?hd (xs := ([a2] : List Int)) (inner := [.int .i64 a2]) (ok := fun _ => True) (okp := fun _ => True) ?hr ?hp (fun _ hk => hk) trivial (Below.refl _ _) (Nat.le_refl _) (by simp) ?_; (case hd => rfl); (case hg => rfl); (case hr => exact zz9); (case hp => exact (Reps.one (show Kd.M (Kd.int .i64) _ _ _ a2 [.int .i64 a2] from rfl) (Reps.none _ _))); intro v103 w5 ho6 hb hg_ hnew_; clear hg_ hnew_; (first | rw [← Ny102.out] at ho6 | (simp only [Int.reduceToNat] at ho6; rw [← Ny102.out] at ho6)); have n_ := zA3 (Kd.R_lower ho6 (below_size zz0)) (blk_below (g := gb101) (o := .cells #[.int .i64 a0_0, .slice A0_1 l0_1.length c0_1] 25 (0, 0)) zz2 hb) (below_step zz0 hb); clear BK101 HB; obtain ⟨HO104, BK101, HB⟩ := n_; clear hb ho6))); (go_loopg [7] k (fun kq v7 w' => ∃ (x7_1 : List Int), Aside0 (impl_burn.l0 kq l1 x7_1 a0_0 l0_1 = some r) ∧ Aside0 (kq ≤ k) ∧ Aside0 (Kd.R (Kd.int .i64) 3 w' w.heap.size (fun _ => True) v7 x7_1) ∧ Aside0 (w'.heap[gb101]? = some (.cells #[.int .i64 a0_0, (.slice A0_1 l0_1.length c0_1)] 25 (0, 0))) ∧ Aside0 (Below w.heap.size w w'))); case atStart => exact ⟨(y102), H', ⟨Nat.le_refl _⟩, ⟨by (with_reducible repeat (first | apply Kd.R_alloc | apply Kd.R_drewN | apply Kd.R_drew)); exact HO104.out⟩, ⟨zz2⟩, ⟨zz0⟩⟩
 case round =>
  clear H'; (try clear c1); (try clear p2); obtain ⟨x7_1, HA, HK1, HO_7, BK101, HB⟩ := hrel
  cases gk with
  | zero => exact absurd HA.out (by simp [impl_burn.l0])
  | succ k1 =>
   have H := HA.out; clear HA; simp only [impl_burn.l0] at H; have H' := Aside0.mk H; clear H; go_wp2; (go_loopg [8, 9] k1 (fun kq v8 v9 w' => ∃ (x8_2 : Int) (x9_2 : Int), v8 = .int .i64 x8_2 ∧ v9 = .int .i64 x9_2 ∧ Aside0 (impl_burn.l1 kq l1 x7_1 x8_2 x9_2 a0_0 l0_1 = some r) ∧ Aside0 (kq ≤ k1) ∧ Aside0 (Kd.R (Kd.int .i64) 3 w' w.heap.size (fun _ => True) u7 x7_1) ∧ Aside0 (w'.heap[gb101]? = some (.cells #[.int .i64 a0_0, (.slice A0_1 l0_1.length c0_1)] 25 (0, 0))) ∧ Aside0 (Below w.heap.size w w'))); case atStart => exact ⟨((-1)), (0), zz5, zz5, H', ⟨Nat.le_refl _⟩, ⟨zz24⟩, ⟨zz2⟩, ⟨zz0⟩⟩
   case round =>
    clear H'; (try clear c1); (try clear p2); (try clear p2); obtain ⟨x8_2, x9_2, rfl, rfl, HA, HK2, HO_7, BK101, HB⟩ := hrel
    cases gk with
    | zero => exact absurd HA.out (by simp [impl_burn.l1])
    | succ k2 =>
     have H := HA.out; clear HA; simp only [impl_burn.l1] at H; have HC7 := Aside0.mk H; clear H; (go_upto_region 4 with (fail)); go_cut [22] (fun v22 wc => ∃ (kq : Nat) (x22_6 : Bool), v22 = .bool x22_6 ∧ Aside0 (impl_burn.j2 kq l1 x7_1 x8_2 x9_2 x22_6 a0_0 l0_1 = some r) ∧ Aside0 (kq ≤ k2) ∧ Aside0 (Kd.R (Kd.int .i64) 3 wc w.heap.size (fun _ => True) u7 x7_1) ∧ Aside0 (wc.heap[gb101]? = some (.cells #[.int .i64 a0_0, (.slice A0_1 l0_1.length c0_1)] 25 (0, 0))) ∧ Aside0 (Below w.heap.size w wc))
     case first =>
      have H := HC7.out; clear HC7; by_cases c8 : x9_2 < a0_0
      ·rw [if_pos c8] at H; have c8b0 := decide_eq_true c8; clear c8; (first | rw [c8b0] | (simp only [i64_w, i32_w]; rw [c8b0]) | skip); have H' := Aside0.mk H; clear H; have hcz9_0 := zC20 BK101; have hcz9_1 := zC21 BK101; have hfz9_0 := blk_frozen BK101.out 0; have hfz9_1 := blk_frozen BK101.out 1; go_wp2; (go_meet); case rel => exact ⟨_, (decide (x8_2 < 0)), zz5, H', ⟨by have := HK1.out; have := HK2.out; first | omega | exact Nat.le_refl _⟩, ⟨zz24⟩, ⟨zz2⟩, ⟨zz0⟩⟩
      rw [if_neg c8] at H; have c8b0 := decide_eq_false c8; clear c8; (first | rw [c8b0] | (simp only [i64_w, i32_w]; rw [c8b0]) | skip); have H' := Aside0.mk H; clear H; have hcz10_0 := zC20 BK101; have hcz10_1 := zC21 BK101; have hfz10_0 := blk_frozen BK101.out 0; have hfz10_1 := blk_frozen BK101.out 1; go_wp2; (go_meet); case rel => exact ⟨_, (false), zz5, H', ⟨by have := HK1.out; have := HK2.out; first | omega | exact Nat.le_refl _⟩, ⟨zz24⟩, ⟨zz2⟩, ⟨zz0⟩⟩
     case rest =>
      clear HC7; (try clear c1); (try clear p2); (try clear c8); (try clear c8b0); (try clear hcz10_0); (try clear hcz10_1); (try clear hcz9_0); (try clear hcz9_1); (try clear hfz10_0); (try clear hfz10_1); (try clear hfz9_0); (try clear hfz9_1); (try clear p2); obtain ⟨kq, x22_6, rfl, HA, HJ6, HO_7, BK101, HB⟩ := hcut
      cases kq with
      | zero => exact absurd HA.out (by simp [impl_burn.j2])
      | succ kj6 =>
       have H := HA.out; clear HA; simp only [impl_burn.j2] at H; by_cases c11 : x22_6 = true; rotate_left
       ·replace c11 := Bool.eq_false_iff.mpr c11; subst c11; rw [if_neg (show ¬ (false = true) by decide)] at H; by_cases c24 : x8_2 < 0
        ·rw [if_pos c24] at H; have c24b0 := decide_eq_true c24; clear c24; obtain rfl := Option.some.inj H; go_wp2; go_ret; exact ⟨_, zz7, zz24, zz0⟩
        rw [if_neg c24] at H; have c24b0 := decide_eq_false c24; clear c24; by_cases c25 : x7_1.length < 17592186044416; rotate_left
        ·rw [if_neg c25] at H; exact absurd H (by simp)
        rw [if_pos c25] at H; have LMc25 := Aside0.mk c25; clear c25; obtain ⟨y105, hy_⟩ : ∃ y_ : List Int, y_ = (x7_1 ++ [x8_2]) := ⟨_, rfl⟩; (replace H : (impl_burn.l0 kj6 l1 y105 a0_0 l0_1) = some r := zzY); have Ny105 := Aside0.mk hy_; clear hy_; have H' := Aside0.mk H; clear H; (go_wp2_with (first | ((with_reducible refine gate_builtin (b := .append) (xs := #[.tmp 54, .tmp 56]) rfl ?_); at_builtin; refine Kd.R_append (Kd.int .i64) (w0 := w) w.heap.size rfl (.tmp 54) (.tmp 56) 26 3 (.int .i64 0) 8 rfl Try.underlying26 info3 rfl (by decide) (by omega) u7 x7_1 x8_2 [.int .i64 x8_2] (fun _ => True) (fun _ => False) rfl rfl ?aP (fun _ hk => hk.elim) ?aF ?aO ?aB ?aS ?aL ?_; (case aP => exact rfl); (case aB => exact zz0); (case aF => exact (fun _ _ => trivial)); (case aO => exact zz24); (case aS => exact (below_size zz0)); (case aL => have := LMc25.out; omega); intro v106 w26 ho hb hg hat; rw [← Ny105.out] at ho; have n_ := zA3 (blk_grown (g := gb101) (o := .cells #[.int .i64 a0_0, .slice A0_1 l0_1.length c0_1] 25 (0, 0)) zz2 hg (Kd.R_ne HO_7.out BK101.out (by decide))) hb ho; clear BK101 HB HO_7; obtain ⟨BK101, HB, HO107⟩ := n_; clear ho hb hg hat))); go_roundg kj6; (case measure => have := HK1.out; have := HK2.out; have := HJ6.out; omega); case rel => exact ⟨(y105), H', ⟨by have := HK1.out; have := HK2.out; have := HJ6.out; omega⟩, ⟨by (with_reducible repeat (first | apply Kd.R_alloc | apply Kd.R_drewN | apply Kd.R_drew)); exact HO107.out⟩, ⟨zz2⟩, ⟨zz0⟩⟩
       subst c11; rw [if_pos rfl] at H; have H' := Aside0.mk H; clear H; obtain ⟨Ao12, co12, eo12⟩ := Kd.R_slice HO_7.out; subst eo12; go_wp2; (go_loopg [10, 27] kj6 (fun kq v10 v27 w' => ∃ (x10_4 : Int) (x27_4 : Int), v10 = .int .i64 x10_4 ∧ v27 = .int .i64 x27_4 ∧ Aside0 (impl_burn.l2 kq l1 x7_1 x8_2 x9_2 x10_4 x7_1 (x7_1.length : Int) x27_4 a0_0 l0_1 = some r) ∧ Aside0 (kq ≤ kj6) ∧ Aside0 (Kd.R (Kd.int .i64) 3 w' w.heap.size (fun _ => True) (.slice Ao12 x7_1.length co12) x7_1) ∧ Aside0 (Kd.R (Kd.int .i64) 3 w' w.heap.size (fun _ => True) (.slice Ao12 x7_1.length co12) x7_1) ∧ Aside0 (w'.heap[gb101]? = some (.cells #[.int .i64 a0_0, (.slice A0_1 l0_1.length c0_1)] 25 (0, 0))) ∧ Aside0 (Below w.heap.size w w'))); case atStart => exact ⟨(0), (0), zz5, zz5, H', ⟨Nat.le_refl _⟩, ⟨zz24⟩, ⟨zz24⟩, ⟨zz2⟩, ⟨zz0⟩⟩
       case round =>
        clear H'; (try clear c1); (try clear p2); (try clear c8); (try clear c8b0); (try clear c11); (try clear hcz10_0); (try clear hcz10_1); (try clear hcz9_0); (try clear hcz9_1); (try clear hfz10_0); (try clear hfz10_1); (try clear hfz9_0); (try clear hfz9_1); (try clear p2); obtain ⟨x10_4, x27_4, rfl, rfl, HA, HK4, HO_7, HO_25, BK101, HB⟩ := hrel
        cases gk with
        | zero => exact absurd HA.out (by simp [impl_burn.l2])
        | succ k4 =>
         have H := HA.out; clear HA; simp only [impl_burn.l2] at H; by_cases c13 : x27_4 < (x7_1.length : Int)
         ·rw [if_pos c13] at H; have c13b0 := decide_eq_true c13; clear c13; by_cases c14 : 0 ≤ x27_4; rotate_left
          ·rw [if_neg c14] at H; exact absurd H (by simp)
          rw [if_pos c14] at H; have c14b0 := decide_eq_true c14; clear c14; by_cases c15 : x27_4 < (x7_1.length : Int); rotate_left
          ·rw [if_neg c15] at H; exact absurd H (by simp)
          rw [if_pos c15] at H; have c15b0 := decide_eq_true c15; clear c15; replace H := Option.bind_eq_some_iff.mp H; obtain ⟨t109, A160, H⟩ := H; (try dsimp only at H); have A16 := Aside0.mk A160; clear A160; have H' := Aside0.mk H; clear H; have p108 : 0 ≤ (x27_4 : Int) := of_decide_eq_true zz3; have q108 : x27_4 < (x7_1.length : Int) := of_decide_eq_true zz3; obtain ⟨ad108, e108, hx108_0⟩ := Kd.at_int (Kd.R_reads' HO_25.out).2.2 x27_4 p108 q108; cases e108; replace p108 := eq_true p108; replace q108 := eq_true q108; have hcz17_0 := zC20 BK101; have hcz17_1 := zC21 BK101; have hfz17_0 := blk_frozen BK101.out 0; have hfz17_1 := blk_frozen BK101.out 1; (go_wp2_with (first | ((with_reducible refine gate_callee (f := 123) rfl ?_); refine goesL_ (some 35) rfl rfl Try.func123 (by kernel_rfl) rfl #[.agg #[.int .i64 a0_0, .slice A0_1 l0_1.length c0_1], .int .i64 x9_2, .int .i64 (rd x7_1 x27_4)] rfl zz4 ?_; (with_reducible refine (impl_Multiplicity.calls k4 a0_0 _ _ l0_1 x9_2 (rd x7_1 x27_4) t109 _ ?side1 ?side2 A16.out).mono ?_); (case side1 => exact zz6); (case side2 => exact HC0_1.out); rintro e w18 ⟨rfl, hb⟩; refine ⟨_, rfl, ?_⟩; have n_ := zA4 (Kd.R_below zz24 hb) (Kd.R_below (by (with_reducible repeat (first | apply Kd.R_alloc | apply Kd.R_drewN | apply Kd.R_drew)); exact HO_25.out) hb) (blk_below (g := gb101) (o := .cells #[.int .i64 a0_0, .slice A0_1 l0_1.length c0_1] 25 (0, 0)) zz2 hb) (below_step zz0 hb); clear HO_7 HO_25 BK101 HB; obtain ⟨HO_7, HO_25, BK101, HB⟩ := n_; clear hb))); go_roundg k4; (case measure => have := HK1.out; have := HK2.out; have := HJ6.out; have := HK4.out; omega); case rel => exact ⟨(wrap64 (x10_4 + t109)), (wrap64 (x27_4 + 1)), zz5, zz5, H', ⟨by have := HK1.out; have := HK2.out; have := HJ6.out; have := HK4.out; omega⟩, ⟨zz24⟩, ⟨by (with_reducible repeat (first | apply Kd.R_alloc | apply Kd.R_drewN | apply Kd.R_drew)); exact HO_25.out⟩, ⟨zz2⟩, ⟨zz0⟩⟩
         rw [if_neg c13] at H; have c13b0 := decide_eq_false c13; clear c13; replace H := Option.bind_eq_some_iff.mp H; obtain ⟨t110, A190, H⟩ := H; (try dsimp only at H); have A19 := Aside0.mk A190; clear A190; by_cases c20 : t110 = true
         ·subst c20; rw [if_pos rfl] at H; have H' := Aside0.mk H; clear H; (go_wp2_with (first | ((with_reducible refine gate_callee (f := 43) rfl ?_); refine goesL_ (some 40) rfl rfl Try.func43 (by kernel_rfl) rfl #[.slice Ao12 x7_1.length co12, .int .i64 x9_2] rfl zz4 ?_; (with_reducible refine (slices_Contains_int_int.calls k4 _ _ x7_1 x9_2 true _ ?side1 ?side2 A19.out).mono ?_); (case side1 => repeat (first | exact (Kd.R_reads' HO_7.out).2.2 | (with_reducible refine Kd.C_alloc ?_ _) | (with_reducible refine Kd.C_drewN ?_ _) | (with_reducible refine Kd.C_drew ?_))); (case side2 => exact (Kd.R_reads' HO_7.out).2.1); rintro e w' ⟨rfl, ⟨nd, rfl⟩⟩; refine ⟨_, rfl, ?_⟩))); go_roundg k4; (case measure => have := HK1.out; have := HK2.out; have := HJ6.out; have := HK4.out; omega); case rel => exact ⟨(x8_2), (wrap64 (x9_2 + 1)), zz5, zz5, H', ⟨by have := HK1.out; have := HK2.out; have := HJ6.out; have := HK4.out; omega⟩, ⟨zz24⟩, ⟨zz2⟩, ⟨zz0⟩⟩
         replace c20 := Bool.eq_false_iff.mpr c20; subst c20; rw [if_neg (show ¬ (false = true) by decide)] at H; by_cases c21 : 0 ≤ x9_2; rotate_left
         ·rw [if_neg c21] at H; exact absurd H (by simp)
         rw [if_pos c21] at H; have c21b0 := decide_eq_true c21; clear c21; by_cases c22 : x9_2 < (l1.length : Int); rotate_left
         ·rw [if_neg c22] at H; exact absurd H (by simp)
         rw [if_pos c22] at H; have c22b0 := decide_eq_true c22; clear c22; by_cases c23 : (rd l1 x9_2) < x10_4
         ·rw [if_pos c23] at H; have c23b0 := decide_eq_true c23; clear c23; have H' := Aside0.mk H; clear H; (go_wp2_with (first | ((with_reducible refine gate_callee (f := 43) rfl ?_); refine goesL_ (some 40) rfl rfl Try.func43 (by kernel_rfl) rfl #[.slice Ao12 x7_1.length co12, .int .i64 x9_2] rfl zz4 ?_; (with_reducible refine (slices_Contains_int_int.calls k4 _ _ x7_1 x9_2 false _ ?side1 ?side2 A19.out).mono ?_); (case side1 => repeat (first | exact (Kd.R_reads' HO_7.out).2.2 | (with_reducible refine Kd.C_alloc ?_ _) | (with_reducible refine Kd.C_drewN ?_ _) | (with_reducible refine Kd.C_drew ?_))); (case side2 => exact (Kd.R_reads' HO_7.out).2.1); rintro e w' ⟨rfl, ⟨nd, rfl⟩⟩; refine ⟨_, rfl, ?_⟩; have p111 : 0 ≤ (x9_2 : Int) := of_decide_eq_true zz3; have q111 : x9_2 < (l1.length : Int) := of_decide_eq_true zz3; obtain ⟨ad111, e111, hx111_0⟩ := Kd.at_int HR1.out x9_2 p111 q111; cases e111; replace hx111_0 := (HB.out.cell (World.block_lt_of_cell? w _ hx111_0)).trans hx111_0; replace p111 := eq_true p111; replace q111 := eq_true q111))); go_roundg k4; (case measure => have := HK1.out; have := HK2.out; have := HJ6.out; have := HK4.out; omega); case rel => exact ⟨(x9_2), (wrap64 (x9_2 + 1)), zz5, zz5, H', ⟨by have := HK1.out; have := HK2.out; have := HJ6.out; have := HK4.out; omega⟩, ⟨zz24⟩, ⟨zz2⟩, ⟨zz0⟩⟩
         rw [if_neg c23] at H; have c23b0 := decide_eq_false c23; clear c23; have H' := Aside0.mk H; clear H; (go_wp2_with (first | ((with_reducible refine gate_callee (f := 43) rfl ?_); refine goesL_ (some 40) rfl rfl Try.func43 (by kernel_rfl) rfl #[.slice Ao12 x7_1.length co12, .int .i64 x9_2] rfl zz4 ?_; (with_reducible refine (slices_Contains_int_int.calls k4 _ _ x7_1 x9_2 false _ ?side1 ?side2 A19.out).mono ?_); (case side1 => repeat (first | exact (Kd.R_reads' HO_7.out).2.2 | (with_reducible refine Kd.C_alloc ?_ _) | (with_reducible refine Kd.C_drewN ?_ _) | (with_reducible refine Kd.C_drew ?_))); (case side2 => exact (Kd.R_reads' HO_7.out).2.1); rintro e w' ⟨rfl, ⟨nd, rfl⟩⟩; refine ⟨_, rfl, ?_⟩; have p111 : 0 ≤ (x9_2 : Int) := of_decide_eq_true zz3; have q111 : x9_2 < (l1.length : Int) := of_decide_eq_true zz3; obtain ⟨ad111, e111, hx111_0⟩ := Kd.at_int HR1.out x9_2 p111 q111; cases e111; replace hx111_0 := (HB.out.cell (World.block_lt_of_cell? w _ hx111_0)).trans hx111_0; replace p111 := eq_true p111; replace q111 := eq_true q111))); go_roundg k4; (case measure => have := HK1.out; have := HK2.out; have := HJ6.out; have := HK4.out; omega); case rel => exact ⟨(x8_2), (wrap64 (x9_2 + 1)), zz5, zz5, H', ⟨by have := HK1.out; have := HK2.out; have := HJ6.out; have := HK4.out; omega⟩, ⟨zz24⟩, ⟨zz2⟩, ⟨zz0⟩⟩
end Go.Proofs.Ytnbljcgdgblgoaa.P
end

section
namespace Go.Proofs.Ytnbljcgdgblgoaa.P
open Go.RowKit Go.Proofs.YtnbljcgdgblgoaaW.PrintWords Go.Proofs.YtnbljcgdgblgoaaW.PrintLast Go.Proofs.YtnbljcgdgblgoaaW.PrintMore
attribute [local go_sem] max2_int min2_int max_two min_two max_three min_three max_four min_four
set_option linter.unusedVariables false
set_option linter.unusedSimpArgs false
def impl_copyInts.f (l0 : List Int) : Option (List Int) := if ([] : List Int).length + l0.length < 17592186044416 then (some (([] : List Int) ++ l0)) else (none)
set_option maxHeartbeats 8000000 in
set_option maxRecDepth 100000 in
theorem impl_copyInts.calls (A0 : Option Addr) (c0 : Nat) (l0 : List Int) (r : List Int) (w : World) (hr0 : Kd.C (Kd.int .i64) w A0 l0.length l0) (hc0 : l0.length ≤ c0) (h : impl_copyInts.f l0 = some r) :
  Calls Try.prog 86 #[.slice A0 l0.length c0] w fun e w' => ∃ v0_ : Value, e = .returned (v0_) ∧ Kd.R (Kd.int .i64) 3 w' w.heap.size (fun _ => True) v0_ r ∧ Below w.heap.size w w' := by
 have HR0 := Aside0.mk hr0; have HC0 := Aside0.mk hc0; clear hr0 hc0; have HB := Aside0.mk (Below.refl w.heap.size w); have H : (if ([] : List Int).length + l0.length < 17592186044416 then (some (([] : List Int) ++ l0)) else (none)) = some r := h; clear h; by_cases c2 : ([] : List Int).length + l0.length < 17592186044416; rotate_left
 ·rw [if_neg c2] at H; exact absurd H (by simp)
 rw [if_pos c2] at H; have LMc2 := Aside0.mk c2; clear c2; obtain ⟨y101, hy_⟩ : ∃ y_ : List Int, y_ = (([] : List Int) ++ l0) := ⟨_, rfl⟩; (replace H : (some y101) = some r := zzY); have Ny101 := Aside0.mk hy_; clear hy_; obtain rfl := Option.some.inj H; go_enter Try.func86, Try.ntmps86; (go_wp2_with (first | ((with_reducible refine gate_builtin (b := .append) (xs := #[.const (.slice none 0 0), .tmp 3]) rfl ?_); at_builtin; refine Kd.R_append_rows (Kd.int .i64) (w0 := w) w.heap.size rfl (.const (.slice none 0 0)) (.tmp 3) 26 3 (.int .i64 0) 8 rfl Try.underlying26 info3 rfl (by decide) (by omega) (.slice none 0 0) ([] : List Int) l0 _ _ _ (fun _ => True) (fun _ => False) rfl rfl ?aO ?aR (fun _ _ h => h) (fun _ h => h.elim) ?aF ?aB ?aS ?aL ?_; (case aR => exact zz25); (case aB => exact zz1); (case aF => exact (fun _ _ => trivial)); (case aO => exact ((Kd.R_nil _ _ _ _ (fun _ => True)))); (case aS => exact (below_size zz1)); (case aL => have := LMc2.out; omega); intro v102 w3 ho hb hg hat; rw [← Ny101.out] at ho; have n_ := zA2 hb ho; clear HB; obtain ⟨HB, HO103⟩ := n_; clear ho hb hg hat))); go_ret; exact ⟨_, zz7, zz40, zz1⟩
end Go.Proofs.Ytnbljcgdgblgoaa.P
end

section
namespace Go.Proofs.Ytnbljcgdgblgoaa.Cf
set_option linter.unusedVariables false
set_option linter.unusedSimpArgs false
open Go.RowKit Go.Proofs.YtnbljcgdgblgoaaW.PrintWords
/-- Each row has its header in the block's cells; f tells whose a block is. -/
def Heads (w : World) (base : Nat) (ok : Nat → Prop) (f : Nat → Nat) (cur : Array Value) (Z : List (List Int × Nat)) : Prop :=
  ∀ (j : Nat) (x : List Int) (i : Nat), Z[j]? = some (x, i) → ∃ v, cur[j]? = some v ∧ Kd.R (Kd.int .i64) 3 w base (fun k => ok k ∧ f k = i) v x
theorem S_heads {w : World} {base g n cap : Nat} {ok : Nat → Prop} {rows : List (List Int)} (h : Kd.S (Kd.slice 3 (Kd.int .i64)) 26 w base ok (.slice (some ⟨g, 0, none⟩) n cap) rows) :
    ∃ f cur, base ≤ g ∧ ok g ∧ n = rows.length ∧ n ≤ cap ∧ cap ≤ maxLen ∧ cur.size = cap ∧ w.heap[g]? = some (.cells cur 26 (0, 0)) ∧ Heads w base (fun k => ok k ∧ k ≠ g) f cur rows.zipIdx := by
  obtain ⟨f, h0, inner, ho, hr⟩ := h
  rw [List.length_zipIdx] at ho
  have hn := ho.1
  rcases ho.2 with ⟨hv, _⟩ | ⟨g', cap', cur, hv, hb, hc, hnc, hcm, hcs, htk⟩
  · cases hv
  · injection hv with hA hN hC
    injection hA with hA
    injection hA with hA
    subst hA
    subst hC
    have hl : (rows.length : Nat) = n := hN.symm
    refine ⟨f, cur, hb, h0 g rfl, hl.symm, by omega, hcm, by rw [hcs]; exact Nat.mul_one _, hc, ?_⟩
    intro j x i hj
    have hM := hr.2 j (x, i) hj
    obtain ⟨v, hv2, hR⟩ := hM
    refine ⟨v, ?_, Kd.R_mono hR fun k hk => ⟨⟨hk.1.1, fun e => hk.1.2 (by rw [e]; rfl)⟩, hk.2⟩⟩
    have e1 : ((inner.drop (j * 1)).take 1) = [v] := hv2
    rw [Nat.mul_one] at e1
    have hjl : j < rows.length := by have := (List.getElem?_eq_some_iff.1 hj).1; rwa [List.length_zipIdx] at this
    have e2 : inner[j]? = some v := by
      have h1 := congrArg (fun l : List Value => l[0]?) e1
      simp only [List.getElem?_take, List.getElem?_drop] at h1
      simpa using h1
    rw [← htk, List.getElem?_take, if_pos (by show j < rows.length * 1; omega)] at e2
    simpa using e2
theorem heads_S {w : World} {base g cap : Nat} {ok : Nat → Prop} {f : Nat → Nat} {cur : Array Value} {rows : List (List Int)} (hb : base ≤ g) (hok : ok g) (hn : rows.length ≤ cap) (hcm : cap ≤ maxLen) (hcs : cur.size = cap) (hc : w.heap[g]? = some (.cells cur 26 (0, 0))) (hH : Heads w base ok f cur rows.zipIdx) :
    Kd.S (Kd.slice 3 (Kd.int .i64)) 26 w base ok (.slice (some ⟨g, 0, none⟩) rows.length cap) rows := by
  have hz : rows.zipIdx.length = rows.length := List.length_zipIdx
  refine ⟨f, fun k hk => ?_, cur.toList.take rows.length, ?_, ?_⟩
  · have : g = k := by simpa [Value.ownBlock] using hk
    rw [← this]; exact hok
  · rw [hz]
    refine ⟨?_, .inr ⟨g, cap, cur, rfl, hb, hc, hn, hcm, by rw [hcs]; exact (Nat.mul_one _).symm, ?_⟩⟩
    · show _ = rows.length * 1
      rw [List.length_take, show cur.toList.length = cap from hcs, Nat.min_eq_left hn, Nat.mul_one]
    · show cur.toList.take (rows.length * 1) = _
      rw [Nat.mul_one]
  · refine ⟨?_, fun j p hj => ?_⟩
    · show _ = rows.zipIdx.length * 1
      rw [hz, List.length_take, show cur.toList.length = cap from hcs, Nat.min_eq_left hn, Nat.mul_one]
    · obtain ⟨x, i⟩ := p
      obtain ⟨v, hv, hR⟩ := hH j x i hj
      have hjl : j < rows.length := by have := (List.getElem?_eq_some_iff.1 hj).1; rwa [List.length_zipIdx] at this
      refine ⟨v, ?_, Kd.R_mono (Kd.R_types hR hc (by decide)) fun k hk => ⟨⟨hk.1.1, fun e => hk.2 (by simpa [Value.ownBlock] using e)⟩, hk.1.2⟩⟩
      show ((cur.toList.take rows.length).drop (j * 1)).take 1 = [v]
      have e : (cur.toList.take rows.length)[j]? = some v := by
        rw [List.getElem?_take, if_pos hjl]
        simpa using hv
      obtain ⟨hl, he⟩ := List.getElem?_eq_some_iff.1 e
      rw [Nat.mul_one, List.drop_eq_getElem_cons hl, he]
      rfl
/-- The rows that stay, with their old places. -/
def keptZ (p : List Int → Bool) (rows : List (List Int)) (j : Nat) : List (List Int × Nat) := (rows.zipIdx.take j).filter fun x => !p x.1
theorem keptZ_succ (p : List Int → Bool) {rows : List (List Int)} {j : Nat} (h : j < rows.length) : keptZ p rows (j + 1) = keptZ p rows j ++ (if p rows[j] = true then [] else [(rows[j], j)]) := by
  have hz : rows.zipIdx[j]? = some (rows[j], j) := by rw [List.getElem?_zipIdx, List.getElem?_eq_getElem h, Nat.zero_add]; rfl
  unfold keptZ
  rw [List.take_add_one, hz, List.filter_append]
  congr 1
  by_cases c : p rows[j] = true
  · rw [if_pos c]; simp [c]
  · rw [if_neg c]; simp [c]
theorem keptZ_all (p : List Int → Bool) (rows : List (List Int)) : (keptZ p rows rows.length).map (·.1) = rows.filter fun x => !p x := by
  unfold keptZ
  rw [List.take_of_length_le (by rw [List.length_zipIdx]; exact Nat.le_refl _)]
  have h := List.filter_map (f := fun x : List Int × Nat => x.1) (p := fun x => !p x) (l := rows.zipIdx)
  rw [List.zipIdx_map_fst] at h
  exact h.symm
theorem keptZ_nodup (p : List Int → Bool) (rows : List (List Int)) (j : Nat) : ((keptZ p rows j).map (·.2)).Nodup := by
  have h1 : (keptZ p rows j).Sublist rows.zipIdx := (List.filter_sublist).trans (List.take_sublist _ _)
  have h2 := h1.map (·.2)
  refine h2.nodup ?_
  rw [List.zipIdx_map_snd]
  exact List.nodup_range'
theorem heads_push {w : World} {base : Nat} {ok : Nat → Prop} {f : Nat → Nat} {cur : Array Value} {Z : List (List Int × Nat)} (h : Heads w base ok f cur Z) {v : Value} {x : List Int} {t : Nat} (hl : Z.length < cur.size) (hR : Kd.R (Kd.int .i64) 3 w base (fun k => ok k ∧ f k = t) v x) : Heads w base ok f (cur.setIfInBounds Z.length v) (Z ++ [(x, t)]) := by
  intro j y i hj
  by_cases e : j < Z.length
  · rw [List.getElem?_append_left e] at hj
    obtain ⟨u, hu, hRu⟩ := h j y i hj
    exact ⟨u, by rw [Array.getElem?_setIfInBounds_ne (by omega)]; exact hu, hRu⟩
  · have hjl := (List.getElem?_eq_some_iff.1 hj).1
    rw [List.length_append, List.length_singleton] at hjl
    obtain rfl : j = Z.length := by omega
    rw [List.getElem?_append_right (Nat.le_refl _), Nat.sub_self] at hj
    obtain ⟨rfl, rfl⟩ := Prod.mk.inj (Option.some.inj hj)
    exact ⟨v, by rw [Array.getElem?_setIfInBounds_self_of_lt hl], hR⟩
theorem heads_take {w : World} {base : Nat} {ok : Nat → Prop} {f : Nat → Nat} {cur : Array Value} {Z : List (List Int × Nat)} (h : Heads w base ok f cur Z) (n : Nat) : Heads w base ok f cur (Z.take n) := by
  intro j x i hj
  rw [List.getElem?_take] at hj
  split at hj
  · exact h j x i hj
  · cases hj
theorem heads_cells {w : World} {base : Nat} {ok : Nat → Prop} {f : Nat → Nat} {cur cur' : Array Value} {Z : List (List Int × Nat)} (h : Heads w base ok f cur Z) (hc : ∀ j, j < Z.length → cur'[j]? = cur[j]?) : Heads w base ok f cur' Z := by
  intro j x i hj
  obtain ⟨v, hv, hR⟩ := h j x i hj
  exact ⟨v, (hc j (List.getElem?_eq_some_iff.1 hj).1).trans hv, hR⟩
theorem heads_step {w w1 : World} {base : Nat} {ok : Nat → Prop} {f : Nat → Nat} {cur : Array Value} {Z : List (List Int × Nat)} (h : Heads w base ok f cur Z) (hm : ∀ k, ok k → k < w.heap.size → w1.heap[k]? = w.heap[k]?) : Heads w1 base ok f cur Z := fun j x i hj => by
  obtain ⟨v, hv, hR⟩ := h j x i hj
  exact ⟨v, hv, Kd.R_step hR fun k hk hlt => hm k hk.1 hlt⟩
theorem keptZ_pre (p : List Int → Bool) (rows : List (List Int)) {i : Nat} (hi : i ≤ rows.length) (h : ∀ j, (hj : j < rows.length) → j < i → p rows[j] = false) : keptZ p rows i = rows.zipIdx.take i := by
  unfold keptZ
  rw [List.filter_eq_self]
  intro x hx
  obtain ⟨j, hj, rfl⟩ := List.getElem_of_mem hx
  rw [List.length_take, List.length_zipIdx] at hj
  rw [List.getElem_take, List.getElem_zipIdx]
  simp only
  rw [h j (by omega) (by omega)]
  rfl
/-- The rows that stay are rows that lie apart. -/
theorem kept_S {w : World} {base g cap : Nat} {ok : Nat → Prop} {f : Nat → Nat} {cur : Array Value} {rows : List (List Int)} {p : List Int → Bool} (hb : base ≤ g) (hok : ok g) (hn : rows.length ≤ cap) (hcm : cap ≤ maxLen) (hcs : cur.size = cap) (hc : w.heap[g]? = some (.cells cur 26 (0, 0))) (hH : Heads w base ok f cur (keptZ p rows rows.length)) :
    Kd.S (Kd.slice 3 (Kd.int .i64)) 26 w base ok (.slice (some ⟨g, 0, none⟩) (rows.filter fun x => !p x).length cap) (rows.filter fun x => !p x) := by
  have hl : (rows.filter fun x => !p x).length ≤ cap := Nat.le_trans (List.length_filter_le _ _) hn
  refine heads_S (f := fun k => ((keptZ p rows rows.length).map (·.2)).idxOf (f k)) hb hok hl hcm hcs hc ?_
  intro j x i hj
  rw [← keptZ_all p rows] at hj
  rw [List.getElem?_zipIdx, Nat.zero_add, List.getElem?_map] at hj
  obtain ⟨y, hy, he⟩ := Option.map_eq_some_iff.1 hj
  obtain ⟨z, hz, hz2⟩ := Option.map_eq_some_iff.1 hy
  obtain ⟨z1, z2⟩ := z
  subst hz2
  obtain ⟨rfl, rfl⟩ := Prod.mk.inj he
  obtain ⟨v, hv, hR⟩ := hH j z1 z2 hz
  refine ⟨v, hv, Kd.R_mono hR fun k hk => ⟨hk.1, ?_⟩⟩
  show ((keptZ p rows rows.length).map (·.2)).idxOf (f k) = j
  have hm : ((keptZ p rows rows.length).map (·.2))[j]? = some z2 := by rw [List.getElem?_map, hz]; rfl
  obtain ⟨hjl, hje⟩ := List.getElem?_eq_some_iff.1 hm
  rw [hk.2, ← hje]
  exact (keptZ_nodup p rows rows.length).idxOf_getElem j hjl
/-- A list with one more number, below m. -/
def extB (m : Nat) (d : List Int) : List (List Int) := (List.range m).map fun t : Nat => d ++ [(t : Int)]
theorem extB_zero (d : List Int) : extB 0 d = [] := rfl
theorem extB_succ (m : Nat) (d : List Int) : extB (m + 1) d = extB m d ++ [d ++ [(m : Int)]] := by
  unfold extB
  rw [List.range_succ, List.map_append]
  rfl
theorem extB_len (m : Nat) (d : List Int) : (extB m d).length = m := by unfold extB; simp
def boxL (c : Nat → Nat) : Nat → List (List Int)
  | 0 => [[]]
  | v + 1 => (boxL c v).flatMap (extB (c v))
/-- What the first i lists give. -/
def outB (m : Nat) (L : List (List Int)) (i : Nat) : List (List Int) := (L.take i).flatMap (extB m)
theorem outB_succ (m : Nat) {L : List (List Int)} {i : Nat} {x : List Int} (h : L[i]? = some x) : outB m L (i + 1) = outB m L i ++ extB m x := by
  unfold outB
  rw [List.take_add_one, h, List.flatMap_append]
  simp
theorem outB_all (c : Nat → Nat) (v : Nat) : outB (c v) (boxL c v) (boxL c v).length = boxL c (v + 1) := by
  unfold outB
  rw [List.take_length]
  rfl
theorem flatB_len (m : Nat) : ∀ L : List (List Int), (L.flatMap (extB m)).length = L.length * m
  | [] => by simp
  | x :: L => by
    rw [List.flatMap_cons, List.length_append, extB_len, flatB_len m L, List.length_cons, Nat.add_mul, Nat.one_mul, Nat.add_comm]
theorem outB_len (m : Nat) (L : List (List Int)) (i : Nat) : (outB m L i).length ≤ L.length * m := by
  unfold outB
  rw [flatB_len, List.length_take]
  exact Nat.mul_le_mul_right _ (Nat.min_le_right _ _)
theorem boxL_len {c : Nat → Nat} {b : Nat} : ∀ {v : Nat}, (∀ u, u < v → c u ≤ b) → (boxL c v).length ≤ b ^ v
  | 0, _ => Nat.le_refl _
  | v + 1, h => by
    show ((boxL c v).flatMap (extB (c v))).length ≤ _
    rw [flatB_len, Nat.pow_succ]
    exact Nat.mul_le_mul (boxL_len fun u hu => h u (by omega)) (h v (by omega))
theorem boxL_row {c : Nat → Nat} : ∀ {v : Nat} {x : List Int}, x ∈ boxL c v → x.length = v ∧ ∀ (j : Nat) (h : j < x.length), 0 ≤ x[j] ∧ x[j] < (c j : Int)
  | 0, x, h => by
    rw [boxL, List.mem_singleton] at h
    subst h
    exact ⟨rfl, fun j h => absurd h (by simp)⟩
  | v + 1, x, h => by
    rw [boxL, List.mem_flatMap] at h
    obtain ⟨d, hd, hx⟩ := h
    obtain ⟨h1, h2⟩ := boxL_row hd
    unfold extB at hx
    obtain ⟨t, ht, rfl⟩ := List.mem_map.1 hx
    rw [List.mem_range] at ht
    refine ⟨by simp [h1], fun j hj => ?_⟩
    by_cases e : j < d.length
    · rw [List.getElem_append_left e]
      exact h2 j e
    · rw [List.length_append, List.length_singleton] at hj
      obtain rfl : j = d.length := by omega
      rw [List.getElem_append_right (Nat.le_refl _)]
      simp only [Nat.sub_self, List.getElem_singleton]
      rw [h1]
      omega
/-- The same, depth first: r more numbers behind s, whose next place is v. -/
def dfsB (c : Nat → Nat) : Nat → Nat → List Int → List (List Int)
  | 0, _, s => [s]
  | r + 1, v, s => (extB (c v) s).flatMap (dfsB c r (v + 1))
theorem flatB_one {α : Type} : ∀ L : List α, (L.flatMap fun t => [t]) = L
  | [] => rfl
  | a :: L => by rw [List.flatMap_cons, flatB_one L]; rfl
theorem dfs_ext (c : Nat → Nat) : ∀ (r v : Nat) (s : List Int), (dfsB c r v s).flatMap (extB (c (v + r))) = dfsB c (r + 1) v s
  | 0, v, s => by
    show ([s] : List (List Int)).flatMap (extB (c v)) = (extB (c v) s).flatMap (fun t => [t])
    rw [flatB_one, List.flatMap_cons, List.flatMap_nil, List.append_nil]
  | r + 1, v, s => by
    show ((extB (c v) s).flatMap (dfsB c r (v + 1))).flatMap (extB (c (v + (r + 1)))) = (extB (c v) s).flatMap (dfsB c (r + 1) (v + 1))
    rw [List.flatMap_assoc]
    congr 1
    funext t
    rw [show v + (r + 1) = v + 1 + r by omega]
    exact dfs_ext c r (v + 1) t
theorem dfs_box (c : Nat → Nat) : ∀ n, dfsB c n 0 [] = boxL c n
  | 0 => rfl
  | n + 1 => by
    rw [boxL, ← dfs_box c n, ← dfs_ext c n 0 [], Nat.zero_add]
def dfsJ (c : Nat → Nat) (r v : Nat) (s : List Int) (j : Nat) : List (List Int) := (extB j s).flatMap (dfsB c r (v + 1))
theorem dfsJ_zero (c : Nat → Nat) (r v : Nat) (s : List Int) : dfsJ c r v s 0 = [] := rfl
theorem dfsJ_succ (c : Nat → Nat) (r v : Nat) (s : List Int) (j : Nat) : dfsJ c r v s (j + 1) = dfsJ c r v s j ++ dfsB c r (v + 1) (s ++ [(j : Int)]) := by
  unfold dfsJ
  rw [extB_succ, List.flatMap_append, List.flatMap_cons, List.flatMap_nil, List.append_nil]
theorem dfsJ_all (c : Nat → Nat) (r v : Nat) (s : List Int) : dfsJ c r v s (c v) = dfsB c (r + 1) v s := rfl
theorem dfsJ_mono (c : Nat → Nat) (r v : Nat) (s : List Int) (j : Nat) : ∀ d, (dfsJ c r v s j).length ≤ (dfsJ c r v s (j + d)).length
  | 0 => Nat.le_refl _
  | d + 1 => by
    refine Nat.le_trans (dfsJ_mono c r v s j d) ?_
    rw [← Nat.add_assoc, dfsJ_succ, List.length_append]
    exact Nat.le_add_right _ _
theorem dfsJ_len (c : Nat → Nat) (r v : Nat) (s : List Int) {j : Nat} (hj : j < c v) : (dfsJ c r v s j).length + (dfsB c r (v + 1) (s ++ [(j : Int)])).length ≤ (dfsB c (r + 1) v s).length := by
  have h := dfsJ_mono c r v s (j + 1) (c v - (j + 1))
  rw [show j + 1 + (c v - (j + 1)) = c v by omega, dfsJ_all, dfsJ_succ, List.length_append] at h
  exact h
theorem extB_mem {m : Nat} {d : List Int} {j : Nat} (h : j < m) : d ++ [(j : Int)] ∈ extB m d := by
  unfold extB
  exact List.mem_map.2 ⟨j, List.mem_range.2 h, rfl⟩
theorem dfs_sub (c : Nat → Nat) (r v : Nat) (s : List Int) {j : Nat} (hj : j < c v) {t : List Int} (ht : t ∈ dfsB c r (v + 1) (s ++ [(j : Int)])) : t ∈ dfsB c (r + 1) v s := by
  show t ∈ (extB (c v) s).flatMap (dfsB c r (v + 1))
  exact List.mem_flatMap.2 ⟨_, extB_mem hj, ht⟩
end Go.Proofs.Ytnbljcgdgblgoaa.Cf
end

section
namespace Go.Proofs.Ytnbljcgdgblgoaa.P
open Go.RowKit Go.Proofs.YtnbljcgdgblgoaaW.PrintWords Go.Proofs.YtnbljcgdgblgoaaW.PrintLast Go.Proofs.YtnbljcgdgblgoaaW.PrintMore
attribute [local go_sem] max2_int min2_int max_two min_two max_three min_three max_four min_four
set_option linter.unusedVariables false
set_option linter.unusedSimpArgs false
/-- Whether a list goes (its fire does not reach all). -/
def impl_reducedAt.pr (k : Nat) (a0 : Int) (es : List S57) (q : Int) (x : List Int) : Bool := match impl_burn.f k a0 es x q with | some r => decide ((r.length : Int) < a0) | none => false
/-- What is kept in memory while rows are looked at. -/
structure impl_reducedAt.Ctx (a0 q : Int) (es : List S57) (A0 : Option Addr) (c0 bg bq g cap : Nat) (ok : Nat → Prop) (f : Nat → Nat) (cur : Array Value) (rows : List (List Int)) (w0 w : World) : Prop where
 hb : Below w0.heap.size w0 w
 hg : w.heap[bg]? = some (.cells #[.int .i64 a0, .slice A0 es.length c0] 25 (0, 0))
 hq : w.heap[bq]? = some (.cells #[.int .i64 q] 3 (0, 0))
 hc : w.heap[g]? = some (.cells cur 26 (0, 0))
 hH : Cf.Heads w w0.heap.size ok f cur rows.zipIdx
theorem impl_reducedAt.Ctx.step {a0 q : Int} {es : List S57} {A0 : Option Addr} {c0 bg bq g cap : Nat} {ok : Nat → Prop} {f : Nat → Nat} {cur : Array Value} {rows : List (List Int)} {w0 w w1 : World} (h : impl_reducedAt.Ctx a0 q es A0 c0 bg bq g cap ok f cur rows w0 w) (hb : Below w.heap.size w w1) : impl_reducedAt.Ctx a0 q es A0 c0 bg bq g cap ok f cur rows w0 w1 :=
 ⟨below_step h.hb hb, blk_below h.hg hb, blk_below h.hq hb, blk_below h.hc hb, Cf.heads_step h.hH fun k _ hlt => hb.block k hlt⟩
/-- A row's header, and the row. -/
theorem impl_reducedAt.Ctx.row {a0 q : Int} {es : List S57} {A0 : Option Addr} {c0 bg bq g cap : Nat} {ok : Nat → Prop} {f : Nat → Nat} {cur : Array Value} {rows : List (List Int)} {w0 w : World} (h : impl_reducedAt.Ctx a0 q es A0 c0 bg bq g cap ok f cur rows w0 w) {j : Nat} (hj : j < rows.length) : ∃ A c, cur[j]? = some (.slice A rows[j].length c) ∧ Kd.R (Kd.int .i64) 3 w w0.heap.size (fun k => ok k ∧ f k = j) (.slice A rows[j].length c) rows[j] := by
 obtain ⟨v, hv, hR⟩ := h.hH j rows[j] j (by rw [List.getElem?_zipIdx, List.getElem?_eq_getElem hj, Nat.zero_add]; rfl); obtain ⟨A, c, e⟩ := Kd.R_slice hR; subst e; exact ⟨A, c, hv, hR⟩
def impl_reducedAt.T1 : Bool × List (List Nat × List Nat) := (true, [([], []), ([], []), ([], []), ([0, 1, 2], [0, 1, 2]), ([3], [3]), ([], []), ([5], [5]), ([4, 6], [4, 6]), ([7, 3, 0, 1, 2, 3, 4, 5, 6, 7], [7])])
def impl_reducedAt.B1 : List Nat := [0, 0, 0, 7, 15, 0, 32, 127, 255]
theorem impl_reducedAt.tab1 : rtab .any (opsOf Try.f88 1) = impl_reducedAt.T1 := by kernel_rfl
theorem impl_reducedAt.bits1 : waitsOk impl_reducedAt.T1.2 impl_reducedAt.B1 = true := by kernel_rfl
set_option maxHeartbeats 8000000 in
set_option maxRecDepth 1000000 in
theorem impl_reducedAt.clo (k : Nat) (a0 q : Int) (es : List S57) (A0 : Option Addr) (c0 bg bq : Nat) (w : World) (hE : Kd.C k57 w A0 es.length es) (hc0 : es.length ≤ c0) (hg : w.heap[bg]? = some (.cells #[.int .i64 a0, .slice A0 es.length c0] 25 (0, 0))) (hq : w.heap[bq]? = some (.cells #[.int .i64 q] 3 (0, 0))) (Ax : Option Addr) (cx : Nat) (x r : List Int) (hx : Kd.C (Kd.int .i64) w Ax x.length x) (hcx : x.length ≤ cx) (h : impl_burn.f k a0 es x q = some r) :
  Calls Try.prog 88 #[.slice Ax x.length cx, .pointer (some ⟨bg, 0, none⟩), .pointer (some ⟨bq, 0, none⟩)] w fun e w' => e = .returned (.bool (impl_reducedAt.pr k a0 es q x)) ∧ Below w.heap.size w w' := by
 have hu25 := Try.underlying25; (have hpr : impl_reducedAt.pr k a0 es q x = decide ((r.length : Int) < a0) := by unfold impl_reducedAt.pr; rw [h]); rw [hpr]; have HE := Aside0.mk hE; have HC := Aside0.mk hc0; have HG := Aside0.mk hg; have HQ := Aside0.mk hq; have HX := Aside0.mk hx; have HCX := Aside0.mk hcx; have HH := Aside0.mk h; clear hE hc0 hg hq hx hcx h hpr; go_enter Try.func88, Try.ntmps88; (try go_wp2); refine start_ (n := 9) (S := fun w' => w'.cell? ⟨bg, 0, none⟩ = some (.int .i64 a0) ∧ w'.cell? ⟨bg, 1, none⟩ = some (.slice A0 es.length c0) ∧ w'.cell? ⟨bq, 0, none⟩ = some (.int .i64 q)) (ds := []) (zM 9 0) (by kernel_rfl) rfl rfl ⟨(blk_cell HG.out 0).trans rfl, (blk_cell HG.out 1).trans rfl, (blk_cell HQ.out 0).trans rfl⟩ (fun hHeld => ?_); refine with_tabW impl_reducedAt.tab1 impl_reducedAt.bits1 (fun HT_ HW_ => ?_); have HB1 := Aside0.mk (below_drew (Below.refl w.heap.size w)); have HG1 := Aside0.mk (blk_below HG.out HB1.out); have HQ1 := Aside0.mk (blk_below HQ.out HB1.out); have HE1 := Aside0.mk (Kd.C_below HE.out HB1.out); have HX1 := Aside0.mk (Kd.C_below HX.out HB1.out); generalize w.drew = wd at HB1 HG1 HQ1 HE1 HX1 hHeld ⊢; refine zQ 1 6 (zM 9 2) ?_
 refine zQ 5 10 (zM 9 34) ?_
 refine take_ (i := 0) (N := some 5) (v := ?_) (a' := ?_) (zM 9 35) rfl rfl (take_ofW HT_.out HW_.out (by kernel_rfl)) (fun _ _ _ h => h) (Or.inl ⟨by rfl, ?_⟩) hHeld ?_ ?_; rotate_left
 ·rintro w' ⟨s0, s1, s2⟩; exact zzT
 rotate_left
 ·exact zzS
 refine take_ (i := 2) (N := some 7) (v := ?_) (a' := ?_) (zM 9 39) rfl rfl (take_ofW HT_.out HW_.out (by kernel_rfl)) (fun _ _ _ h => h) (Or.inl ⟨by rfl, ?_⟩) hHeld ?_ ?_; rotate_left
 ·rintro w' ⟨s0, s1, s2⟩; exact zzT
 rotate_left
 ·exact zzS
 refine take_ (i := 6) (N := some 11) (v := ?_) (a' := ?_) (zM 9 103) rfl rfl (take_ofW HT_.out HW_.out (by kernel_rfl)) (fun _ _ _ h => h) (Or.inl ⟨by rfl, ?_⟩) hHeld ?_ ?_; rotate_left
 ·rintro w' ⟨s0, s1, s2⟩; exact zzT
 rotate_left
 ·exact zzS
 refine one_ (i := 3) (N := some 8) (zM 9 111) rfl rfl (one_of HT_.out (by kernel_rfl)) (by decide) (fun K hK => ?_); refine goes_ Try.func89 (by kernel_rfl) rfl #[.agg #[.int .i64 a0, .slice A0 es.length c0], .slice Ax x.length cx, .int .i64 q] (by rfl) rfl rfl zz28 ?_; refine (impl_burn.calls k a0 _ _ es _ _ x q r _ HE1.out HC.out HX1.out HCX.out HH.out).mono ?_; rintro e w2 ⟨v2, rfl, hR, hb⟩; obtain ⟨Ar, cr, er⟩ := Kd.R_slice hR; subst er; have HB2 := Aside0.mk (below_step HB1.out hb); have HG2 := Aside0.mk (blk_below HG1.out hb); have HQ2 := Aside0.mk (blk_below HQ1.out hb); clear hR hb; refine ⟨_, rfl, ?_⟩; refine hK.out _ _ ⟨(blk_cell HG2.out 0).trans rfl, (blk_cell HG2.out 1).trans rfl, (blk_cell HQ2.out 0).trans rfl⟩ (fun hHeld => ?_); clear hK K; refine norm_ (a' := ?_) ?_ ?_; rotate_left
 ·show Act.put _ (some 8) _ = _; exact zzS
 refine zQ 4 9 (zM 9 127) ?_
 refine zQ 7 12 (zM 9 255) ?_
 refine zQ 8 4 (zM 9 511) ?_
 refine done_ (done_of HT_.out (by kernel_rfl)) ?_; (try go_wp2); go_ret; exact ⟨rfl, HB2.out⟩
set_option maxHeartbeats 8000000 in
set_option maxRecDepth 1000000 in
theorem impl_reducedAt.idx (k : Nat) (a0 q : Int) (es : List S57) (A0 : Option Addr) (c0 bg bq g cap : Nat) (ok : Nat → Prop) (f : Nat → Nat) (cur : Array Value) (rows : List (List Int)) (w0 w : World) (hE : Kd.C k57 w0 A0 es.length es) (hc0 : es.length ≤ c0) (hI : impl_reducedAt.Ctx a0 q es A0 c0 bg bq g cap ok f cur rows w0 w) (hl : rows.length ≤ 1000000000) (hcap : rows.length ≤ cap) (hP : ∀ x ∈ rows, (impl_burn.f k a0 es x q).isSome = true) :
  Calls Try.prog 122 #[.slice (some ⟨g, 0, none⟩) rows.length cap, .func (.func 88) #[] #[.pointer (some ⟨bg, 0, none⟩), .pointer (some ⟨bq, 0, none⟩)]] w fun e w' => Below w.heap.size w w' ∧ ((e = .returned (.int .i64 (-1)) ∧ ∀ x ∈ rows, impl_reducedAt.pr k a0 es q x = false) ∨ ∃ i : Nat, e = .returned (.int .i64 (i : Int)) ∧ i < rows.length ∧ (∀ j, (h : j < rows.length) → j < i → impl_reducedAt.pr k a0 es q rows[j] = false) ∧ ∀ h : i < rows.length, impl_reducedAt.pr k a0 es q rows[i] = true) := by
 have HE := Aside0.mk hE; have HC := Aside0.mk hc0; have HI := Aside0.mk hI; have HL := Aside0.mk hl; have HCAP := Aside0.mk hcap; have HP := Aside0.mk hP; clear hE hc0 hI hl hcap hP; go_enter Try.func122, Try.ntmps122; go_wp2; (go_loopw [8] (fun v8 wr => ∃ i : Nat, v8 = .int .i64 (i : Int) ∧ Aside0 (i ≤ rows.length) ∧ Aside0 (impl_reducedAt.Ctx a0 q es A0 c0 bg bq g cap ok f cur rows w0 wr) ∧ Aside0 (Below w.heap.size w wr) ∧ Aside0 (∀ j, (h : j < rows.length) → j < i → impl_reducedAt.pr k a0 es q rows[j] = false)) (fun v _ => rows.length - (intOf v).toNat)); case atStart => exact ⟨0, rfl, ⟨Nat.zero_le _⟩, HI, ⟨Below.refl _ _⟩, ⟨fun j _ h => absurd h (by omega)⟩⟩
 case round =>
  obtain ⟨i, rfl, HIL, HIr, HBr, HF⟩ := hrel; by_cases hlt : i < rows.length; rotate_left
  ·have d0 : decide ((i : Int) < (rows.length : Int)) = false := decide_eq_false (by omega); have d1 : decide (i < rows.length) = false := decide_eq_false hlt; (have hi : i = rows.length := by have := HIL.out; omega); clear hlt; go_wp2; go_ret; refine ⟨HBr.out, Or.inl ⟨rfl, fun x hx => ?_⟩⟩; obtain ⟨j, hj, rfl⟩ := List.getElem_of_mem hx; exact HF.out j hj (by omega)
  have d0 : decide ((i : Int) < (rows.length : Int)) = true := decide_eq_true (by omega); have d1 : decide (i < rows.length) = true := decide_eq_true hlt; (have p1 : (0 : Int) ≤ (i : Int) := by omega); (have p2 : (i : Int) < (rows.length : Int) := by omega); (have hib : (i : Int) ≤ 1000000000 := by have := HL.out; omega); obtain ⟨Ai, ci, hcur, hRi⟩ := HIr.out.row hlt; have hcell : wr.cell? ⟨g, i, none⟩ = some (.slice Ai rows[i].length ci) := (blk_cell HIr.out.hc i).trans hcur; obtain ⟨r, hr⟩ := Option.isSome_iff_exists.1 (HP.out _ (List.getElem_mem hlt)); have HRR := Aside0.mk hr; have HRi := Aside0.mk (Kd.R_reads' hRi); have HLT := Aside0.mk hlt; clear hcur hRi hr; generalize hx : rows[i]'HLT.out = x at hcell HRR HRi; have HXX := Aside0.mk hx; clear hx hlt; (go_wp2_with fail); refine (impl_reducedAt.clo k a0 q es A0 c0 bg bq _ (Kd.C_below HE.out HIr.out.hb) HC.out HIr.out.hg HIr.out.hq _ _ x r HRi.out.2.2 HRi.out.2.1 HRR.out).mono ?_; rintro e w1 ⟨rfl, hb⟩; have HI1 := Aside0.mk (HIr.out.step hb); have HB1 := Aside0.mk (below_step HBr.out hb); clear hb hcell
  cases hp : impl_reducedAt.pr k a0 es q x with
  | true =>
   go_wp2; go_ret; exact ⟨HB1.out, Or.inr ⟨i, rfl, HLT.out, HF.out, fun h => by rw [HXX.out]; exact hp⟩⟩
  | false =>
   have HPP := Aside0.mk hp; clear hp; go_wp2; go_roundw
   case rel =>
    refine ⟨i + 1, by go_num, ⟨HLT.out⟩, HI1, HB1, ⟨fun j h hj => ?_⟩⟩; by_cases e : j = i
    ·subst e; rw [HXX.out]; exact HPP.out
    ·exact HF.out j h (by omega)
   case measure =>
    have := HLT.out; (simp [intOf]); omega
/-- A slice from a place on, and up to a place. -/
theorem impl_reducedAt.cutl {P : Program} (t e : TypeId) {i : TypeInfo} (ht : P.underlying t = some (.slice e)) (hi : P.info? e = some i) (hsz : i.size = 1) (g n c l : Nat) (hl : l ≤ n) (hc : l < c) : ∀ W : World, (Instr.slice t (.slice (some ⟨g, 0, none⟩) n c) (some (.int .i64 (l : Int))) none none).run P W = .ok (.slice (some ⟨g, l, none⟩) (n - l) (c - l)) W := by
 intro W; (have hel : P.elem t = e := by simp [Program.elem, ht]); (have hu : P.underlying t = some (.slice (P.elem t)) := by rw [hel]; exact ht); rw [run_slice_l W t (some ⟨g, 0, none⟩) n c hu .i64 (l : Int) (by omega) (by omega), hel]; (have hne : ¬ (c = l) := by omega); (simp [sizeOf, typeInfo, hi, hsz, sliced, Result.andThen, Addr.add, hne]); omega
theorem impl_reducedAt.cuth {P : Program} (t e : TypeId) {i : TypeInfo} (ht : P.underlying t = some (.slice e)) (hi : P.info? e = some i) (hsz : i.size = 1) (g n c h : Nat) (hc : h ≤ c) : ∀ W : World, (Instr.slice t (.slice (some ⟨g, 0, none⟩) n c) none (some (.int .i64 (h : Int))) none).run P W = .ok (.slice (some ⟨g, 0, none⟩) h c) W := by
 intro W; (have hel : P.elem t = e := by simp [Program.elem, ht]); (have hu : P.underlying t = some (.slice (P.elem t)) := by rw [hel]; exact ht); rw [run_slice_h W t (some ⟨g, 0, none⟩) n c hu .i64 (h : Int) (by omega) (by omega), hel]; simp [sizeOf, typeInfo, hi, hsz, sliced, Result.andThen, Addr.add]
set_option maxHeartbeats 8000000 in
set_option maxRecDepth 1000000 in
theorem impl_reducedAt.del (k : Nat) (a0 q : Int) (es : List S57) (A0 : Option Addr) (c0 bg bq g cap : Nat) (ok : Nat → Prop) (f : Nat → Nat) (cur : Array Value) (rows : List (List Int)) (w0 w : World) (hE : Kd.C k57 w0 A0 es.length es) (hc0 : es.length ≤ c0) (hI : impl_reducedAt.Ctx a0 q es A0 c0 bg bq g cap ok f cur rows w0 w) (hl : rows.length ≤ 1000000000) (hcap : rows.length ≤ cap) (hP : ∀ x ∈ rows, (impl_burn.f k a0 es x q).isSome = true) (hcs : cur.size = cap) (hcm : cap ≤ maxLen) (hbg : w0.heap.size ≤ g) (hok : ∀ k_, ok k_ → k_ ≠ g) (hne : bg ≠ g ∧ bq ≠ g) :
  Calls Try.prog 87 #[.slice (some ⟨g, 0, none⟩) rows.length cap, .func (.func 88) #[] #[.pointer (some ⟨bg, 0, none⟩), .pointer (some ⟨bq, 0, none⟩)]] w fun e w' => ∃ v : Value, e = .returned v ∧ Kd.S (Kd.slice 3 (Kd.int .i64)) 26 w' w0.heap.size (fun k_ => ok k_ ∨ k_ = g) v (rows.filter fun x => !impl_reducedAt.pr k a0 es q x) ∧ Below w0.heap.size w0 w' := by
 have hidx := impl_reducedAt.idx k a0 q es A0 c0 bg bq g cap ok f cur rows w0 w hE hc0 hI hl hcap hP; have HE := Aside0.mk hE; have HC := Aside0.mk hc0; have HI := Aside0.mk hI; have HL := Aside0.mk hl; have HCAP := Aside0.mk (show rows.length ≤ cap ∧ cur.size = cap ∧ cap ≤ maxLen from ⟨hcap, hcs, hcm⟩); have HP := Aside0.mk hP; have HBG := Aside0.mk hbg; have HOK := Aside0.mk hok; have HNE := Aside0.mk hne; have HIDX := Aside0.mk hidx; (have hnb : (rows.length : Int) ≤ 1000000000 := by omega); clear hE hc0 hI hl hcap hP hcs hcm hbg hok hne hidx; go_enter Try.func87, Try.ntmps87; (go_wp2_with fail); refine HIDX.out.mono ?_; rintro e w1 ⟨hb, hcase⟩; have HI1 := Aside0.mk (HI.out.step hb); clear hb HIDX; rcases hcase with ⟨rfl, hall⟩ | ⟨i0, rfl, hi0, hbef, hat⟩
 ·have HALL := Aside0.mk hall; clear hall; go_wp2; go_ret; (have ef : (rows.filter fun x => !impl_reducedAt.pr k a0 es q x) = rows := List.filter_eq_self.2 fun x hx => by rw [HALL.out x hx]; rfl); rw [ef]; refine ⟨_, rfl, Kd.S_mono (Cf.heads_S (ok := fun k_ => ok k_ ∨ k_ = g) (f := f) HBG.out (Or.inr rfl) HCAP.out.1 HCAP.out.2.2 HCAP.out.2.1 HI1.out.hc ?_) (fun k_ h => h), HI1.out.hb⟩; intro j x i hj; obtain ⟨v, hv, hR⟩ := HI1.out.hH j x i hj; exact ⟨v, hv, Kd.R_mono hR fun k_ h => ⟨Or.inl h.1, h.2⟩⟩
 ·have c0_ : ((i0 : Int) == -1) = false := beq_eq_false_iff_ne.2 (by omega); have c1_ : decide ((i0 : Int) = -1) = false := decide_eq_false (by omega); obtain ⟨jn, ej⟩ : ∃ x : Int, wrap64 ((i0 : Int) + 1) = x := ⟨_, rfl⟩; have ejw : IntKind.i64.wrap ((i0 : Int) + 1) = jn := (i64_w _).trans ej; have HJN := Aside0.mk (show jn = ((i0 + 1 : Nat) : Int) from by rw [← ej]; unfold wrap64; omega); have HI0 := Aside0.mk hi0; have HBEF := Aside0.mk hbef; have HAT := Aside0.mk (hat HI0.out); clear hi0 hbef hat; go_wp2; go_loopw [5, 6, 7] (fun v5 v6 v7 wr => ∃ (i j : Nat) (cr : Array Value), v5 = .int .i64 (i : Int) ∧ v6 = .int .i64 (j : Int) ∧ Aside0 (i < j ∧ j ≤ rows.length ∧ (Cf.keptZ (impl_reducedAt.pr k a0 es q) rows j).length = i) ∧ Aside0 (cr.size = cap ∧ wr.heap[g]? = some (.cells cr 26 (0, 0))) ∧ Aside0 (Cf.Heads wr w0.heap.size ok f cr (Cf.keptZ (impl_reducedAt.pr k a0 es q) rows j)) ∧ Aside0 (∀ t, t < rows.length → j ≤ t → cr[t]? = cur[t]?) ∧ Aside0 (Below w0.heap.size w0 wr ∧ wr.heap[bg]? = some (.cells #[.int .i64 a0, .slice A0 es.length c0] 25 (0, 0)) ∧ wr.heap[bq]? = some (.cells #[.int .i64 q] 3 (0, 0))) ∧ Aside0 (Cf.Heads wr w0.heap.size ok f cur rows.zipIdx)) (fun _ v _ _ => rows.length - (intOf v).toNat)
  case atStart =>
   (have hz : (Cf.keptZ (impl_reducedAt.pr k a0 es q) rows (i0 + 1)) = rows.zipIdx.take i0 := by rw [Cf.keptZ_succ _ HI0.out, if_pos HAT.out, List.append_nil]; exact Cf.keptZ_pre _ rows (Nat.le_of_lt HI0.out) HBEF.out); refine ⟨i0, i0 + 1, cur, rfl, by rw [HJN.out], ⟨by omega, HI0.out, ?_⟩, ⟨HCAP.out.2.1, HI1.out.hc⟩, ⟨?_⟩, ⟨fun t _ _ => rfl⟩, ⟨HI1.out.hb, HI1.out.hg, HI1.out.hq⟩, ⟨HI1.out.hH⟩⟩
   ·rw [hz, List.length_take, List.length_zipIdx]; have := HI0.out; omega
   ·rw [hz]; exact Cf.heads_take HI1.out.hH _
  case round =>
   clear HI1; obtain ⟨i, j, cr, rfl, rfl, HIJ, HCR, HZ, HT, HB, HH⟩ := hrel; (have hij : (i : Int) < (j : Int) := by have := HIJ.out; omega); (have hi0 : (0 : Int) ≤ (i : Int) := by omega); by_cases hlt : j < rows.length; rotate_left
   ·have d0 : decide ((j : Int) < (rows.length : Int)) = false := decide_eq_false (by omega); have d1 : decide (j < rows.length) = false := decide_eq_false hlt; (have hjn : j = rows.length := by have := HIJ.out; omega); (have hin : i < rows.length := by have := HIJ.out; omega); (have hic : i < cap := by have := HCAP.out.1; omega); (have hil : i ≤ cap := by omega); obtain ⟨it, hit, hzt, hszt, hbt⟩ := info_parts info26; have hcutl := impl_reducedAt.cutl (P := Try.prog) 34 26 Try.underlying34 hit hszt g rows.length cap i (Nat.le_of_lt hin) hic; have hcuth := impl_reducedAt.cuth (P := Try.prog) 34 26 Try.underlying34 hit hszt g rows.length cap i hil; (have hcl : ∀ ty, (Builtin.clear_ #[34] ty #[.slice (some ⟨g, i, none⟩) (rows.length - i) (cap - i)]).run Try.prog wr = .ok (.tuple #[]) (wr.setCells g i (List.replicate (rows.length - i) (.slice none 0 0))) := fun ty => Lib.run_clear_slice wr _ _ ty _ Try.underlying34 Try.zeroValue26 rfl rfl g i _ _ (by omega) (fun t ht => by rw [blk_cell HCR.out.2, Array.getElem?_eq_getElem (show i + t < cr.size by have := HCR.out.1; have := HCAP.out.1; omega)]; rfl) (fun t ht => blk_frozen HCR.out.2 _)); have HJ := Aside0.mk hjn; have HIN := Aside0.mk hin; clear hlt hit hzt hszt hbt hjn; go_wp2; go_ret; obtain ⟨cu2, hc2, hs2, ht2⟩ := setCells_row (List.replicate (rows.length - i) (Value.slice none 0 0)) i wr cr HCR.out.2 (by rw [List.length_replicate]; have := HCR.out.1; have := HCAP.out.1; have := HIN.out; omega); (have hfar : ∀ k_, k_ ≠ g → (wr.setCells g i (List.replicate (rows.length - i) (Value.slice none 0 0))).heap[k_]? = wr.heap[k_]? := fun k_ hk => setCells_far _ i k_ hk); obtain ⟨s1, s2, s3, s4⟩ := setCells_same g (List.replicate (rows.length - i) (Value.slice none 0 0)) i wr; (have hlen : (rows.filter fun x => !impl_reducedAt.pr k a0 es q x).length = i := by rw [← Cf.keptZ_all, List.length_map, ← HJ.out]; exact HIJ.out.2.2); have hZ := HZ.out; rw [HJ.out] at hZ; have hK := Cf.kept_S (w := wr.setCells g i (List.replicate (rows.length - i) (Value.slice none 0 0))) (base := w0.heap.size) (g := g) (cap := cap) (ok := fun k_ => ok k_ ∨ k_ = g) (f := f) (cur := cu2) (rows := rows) (p := impl_reducedAt.pr k a0 es q) HBG.out (Or.inr rfl) HCAP.out.1 HCAP.out.2.2 (hs2.trans HCR.out.1) hc2 ?hh
    case hh =>
     have hcells : ∀ t, t < (Cf.keptZ (impl_reducedAt.pr k a0 es q) rows rows.length).length → cu2[t]? = cr[t]? := by
      intro t ht; (have hti : t < i := by have h_ := HIJ.out.2.2; rw [HJ.out] at h_; omega); rw [← Array.getElem?_toList, ← Array.getElem?_toList, ht2, List.append_assoc, List.getElem?_append_left (by rw [List.length_take, Array.length_toList]; have := HCR.out.1; have := HCAP.out.1; have := HIN.out; omega), List.getElem?_take, if_pos hti]
     have h1 := Cf.heads_cells hZ hcells; (have h2 := Cf.heads_step (w1 := wr.setCells g i (List.replicate (rows.length - i) (Value.slice none 0 0))) h1 fun k_ h _ => hfar k_ (HOK.out k_ h)); intro t x u ht; obtain ⟨v, hv, hR⟩ := h2 t x u ht; exact ⟨v, hv, Kd.R_mono hR fun k_ h => ⟨Or.inl h.1, h.2⟩⟩
    rw [hlen] at hK; refine ⟨_, rfl, hK, ⟨s1.trans HB.out.1.os, s2.trans HB.out.1.tape, s3.trans HB.out.1.output, by rw [s4]; exact HB.out.1.size, fun k_ hk => (hfar k_ (by have := HBG.out; omega)).trans (HB.out.1.block k_ hk)⟩⟩
   have d0 : decide ((j : Int) < (rows.length : Int)) = true := decide_eq_true (by omega); have d1 : decide (j < rows.length) = true := decide_eq_true hlt; (have p1 : (0 : Int) ≤ (j : Int) := by omega); (have p2 : (j : Int) < (rows.length : Int) := by omega); (have p3 : (i : Int) < (rows.length : Int) := by omega); obtain ⟨v, hv, hR⟩ := HH.out j rows[j] j (by rw [List.getElem?_zipIdx, List.getElem?_eq_getElem hlt, Nat.zero_add]; rfl); obtain ⟨Ai, ci, ei⟩ := Kd.R_slice hR; subst ei; have hcell : wr.cell? ⟨g, j, none⟩ = some (.slice Ai rows[j].length ci) := (blk_cell HCR.out.2 j).trans ((HT.out j hlt (Nat.le_refl _)).trans hv); obtain ⟨r, hr⟩ := Option.isSome_iff_exists.1 (HP.out _ (List.getElem_mem hlt)); have HRR := Aside0.mk hr; have HRi := Aside0.mk (Kd.R_reads' hR); have HRX := Aside0.mk hR; have HLT := Aside0.mk hlt; clear hv hR hr; generalize hx : rows[j]'HLT.out = x at hcell HRR HRi HRX; have HXX := Aside0.mk hx; clear hx hlt; (go_wp2_with fail); refine (impl_reducedAt.clo k a0 q es A0 c0 bg bq _ (Kd.C_below HE.out HB.out.1) HC.out HB.out.2.1 HB.out.2.2 _ _ x r HRi.out.2.2 HRi.out.2.1 HRR.out).mono ?_; rintro e w2 ⟨rfl, hb⟩; have HCR2 := Aside0.mk (show cr.size = cap ∧ w2.heap[g]? = some (.cells cr 26 (0, 0)) from ⟨HCR.out.1, blk_below HCR.out.2 hb⟩); have HZ2 := Aside0.mk (Cf.heads_step HZ.out fun k_ _ hlt => hb.block k_ hlt); have HH2 := Aside0.mk (Cf.heads_step HH.out fun k_ _ hlt => hb.block k_ hlt); have HB2 := Aside0.mk (show Below w0.heap.size w0 w2 ∧ w2.heap[bg]? = some (.cells #[.int .i64 a0, .slice A0 es.length c0] 25 (0, 0)) ∧ w2.heap[bq]? = some (.cells #[.int .i64 q] 3 (0, 0)) from ⟨below_step HB.out.1 hb, blk_below HB.out.2.1 hb, blk_below HB.out.2.2 hb⟩); have HRX2 := Aside0.mk (Kd.R_below HRX.out hb); clear hb hcell HCR HZ HH HB HRX
   cases hp : impl_reducedAt.pr k a0 es q x with
   | true =>
    have HPP := Aside0.mk hp; clear hp; go_wp2; go_roundw
    case rel =>
     (have hz : (Cf.keptZ (impl_reducedAt.pr k a0 es q) rows (j + 1)) = (Cf.keptZ (impl_reducedAt.pr k a0 es q) rows j) := by rw [Cf.keptZ_succ _ HLT.out, HXX.out, if_pos HPP.out, List.append_nil]); refine ⟨i, j + 1, cr, rfl, by go_num, ⟨by have := HIJ.out; omega, HLT.out, by rw [hz]; exact HIJ.out.2.2⟩, HCR2, ⟨by rw [hz]; exact HZ2.out⟩, ⟨fun t h1 h2 => HT.out t h1 (by omega)⟩, HB2, HH2⟩
    case measure =>
     have := HLT.out; (simp [intOf]); omega
   | false =>
    have HPP := Aside0.mk hp; clear hp; obtain ⟨old, hold⟩ : ∃ old, cr[i]? = some old := ⟨_, Array.getElem?_eq_getElem (show i < cr.size by have := HIJ.out; have := HCR2.out.1; have := HCAP.out.1; omega)⟩; have hzi : w2.cell? ⟨g, i, none⟩ = some old := (blk_cell HCR2.out.2 i).trans hold; have hfz := blk_frozen HCR2.out.2 i; clear hold; go_wp2; go_roundw
    case rel =>
     clear hzi hfz; (have hz : (Cf.keptZ (impl_reducedAt.pr k a0 es q) rows (j + 1)) = (Cf.keptZ (impl_reducedAt.pr k a0 es q) rows j) ++ [(x, j)] := by rw [Cf.keptZ_succ _ HLT.out, HXX.out, if_neg (by rw [HPP.out]; simp)]); (have hset : ∀ k_, ok k_ → k_ < w2.heap.size → (w2.setCell ⟨g, i, none⟩ (.slice Ai x.length ci)).heap[k_]? = w2.heap[k_]? := fun k_ h _ => Below.heap_setCell w2 _ _ k_ (HOK.out k_ h)); refine ⟨i + 1, j + 1, cr.setIfInBounds i (.slice Ai x.length ci), by go_num, by go_num, ⟨by have := HIJ.out; omega, HLT.out, by rw [hz, List.length_append, HIJ.out.2.2]; rfl⟩, ⟨by rw [Array.size_setIfInBounds]; exact HCR2.out.1, blk_set HCR2.out.2 i _⟩, ⟨?_⟩, ⟨fun t h1 h2 => ?_⟩, ⟨below_set HB2.out.1 HBG.out, blk_far HB2.out.2.1 HNE.out.1 _, blk_far HB2.out.2.2 HNE.out.2 _⟩, ⟨Cf.heads_step HH2.out hset⟩⟩
     ·rw [hz]; have h1 := Cf.heads_push HZ2.out (v := .slice Ai x.length ci) (x := x) (t := j) (by have := HIJ.out; have := HCR2.out.1; have := HCAP.out.1; omega) HRX2.out; rw [HIJ.out.2.2] at h1; exact Cf.heads_step h1 hset
     ·rw [Array.getElem?_setIfInBounds_ne (by have := HIJ.out; omega)]; exact HT.out t h1 (by omega)
    case measure =>
     have := HLT.out; (simp [intOf]); omega
def impl_reducedAt.cnt (k : Nat) (a0 : Int) (es : List S57) (q : Int) (v : Nat) : Nat := if (v : Int) = q then 1 else ((impl_Valence.f k a0 es (v : Int)).getD 0).toNat
abbrev impl_reducedAt.ok0 (k : Nat) (a0 : Int) (es : List S57) (q : Int) : Prop := (0 ≤ a0 ∧ a0 ≤ 6) ∧ ∀ v, v < a0.toNat → (impl_Valence.f k a0 es (v : Int)).isSome = true ∧ 0 ≤ (impl_Valence.f k a0 es (v : Int)).getD 0 ∧ (impl_Valence.f k a0 es (v : Int)).getD 0 ≤ 24
abbrev impl_reducedAt.ok1 (k : Nat) (a0 : Int) (es : List S57) (q : Int) : Prop := ∀ x ∈ Cf.boxL (impl_reducedAt.cnt k a0 es q) a0.toNat, (impl_burn.f k a0 es x q).isSome = true
def impl_reducedAt.f (k : Nat) (a0 : Int) (es : List S57) (q : Int) : Option (List (List Int)) := if impl_reducedAt.ok0 k a0 es q ∧ impl_reducedAt.ok1 k a0 es q ∧ 0 < (Cf.boxL (impl_reducedAt.cnt k a0 es q) a0.toNat).length then some ((Cf.boxL (impl_reducedAt.cnt k a0 es q) a0.toNat).filter fun x => !impl_reducedAt.pr k a0 es q x) else none
theorem impl_reducedAt.val_up (k : Nat) {a0 : Int} {es : List S57} {v : Int} (h : (impl_Valence.f k a0 es v).isSome = true) : impl_Valence.f (k + 1) a0 es v = impl_Valence.f k a0 es v := by
 obtain ⟨b, hb⟩ := Option.isSome_iff_exists.1 h; rw [hb, impl_Valence.mono _ _ _ k _ hb]
theorem impl_reducedAt.burn_up (k : Nat) {a0 q : Int} {es : List S57} {x : List Int} (h : (impl_burn.f k a0 es x q).isSome = true) : impl_burn.f (k + 1) a0 es x q = impl_burn.f k a0 es x q := by
 obtain ⟨b, hb⟩ := Option.isSome_iff_exists.1 h; rw [hb, impl_burn.mono _ _ _ _ k _ hb]
theorem impl_reducedAt.box_congr {c d : Nat → Nat} : ∀ {n : Nat}, (∀ v, v < n → c v = d v) → Cf.boxL c n = Cf.boxL d n
 | 0, _ => rfl
 | n + 1, h => by rw [Cf.boxL, Cf.boxL, impl_reducedAt.box_congr fun v hv => h v (by omega), h n (by omega)]
theorem impl_reducedAt.mono : ∀ a0 a1 a2 k, LeO (impl_reducedAt.f k a0 a1 a2) (impl_reducedAt.f (k + 1) a0 a1 a2) := by
 intro a0 es q k r h; unfold impl_reducedAt.f at h ⊢; (split at h); (case isFalse => cases h); rename_i hc; (have e1 : Cf.boxL (impl_reducedAt.cnt (k + 1) a0 es q) a0.toNat = Cf.boxL (impl_reducedAt.cnt k a0 es q) a0.toNat := impl_reducedAt.box_congr fun v hv => by unfold impl_reducedAt.cnt; rw [impl_reducedAt.val_up k (hc.1.2 v hv).1]); have h0 : impl_reducedAt.ok0 (k + 1) a0 es q := ⟨hc.1.1, fun v hv => by rw [impl_reducedAt.val_up k (hc.1.2 v hv).1]; exact hc.1.2 v hv⟩; (have h1 : impl_reducedAt.ok1 (k + 1) a0 es q := by unfold impl_reducedAt.ok1; rw [e1]; exact fun x hx => by rw [impl_reducedAt.burn_up k (hc.2.1 x hx)]; exact hc.2.1 x hx); rw [if_pos ⟨h0, h1, by rw [e1]; exact hc.2.2⟩, ← h, e1]; (congr 1); (refine List.filter_congr fun x hx => ?_); unfold impl_reducedAt.pr; rw [impl_reducedAt.burn_up k (hc.2.1 x hx)]
set_option maxHeartbeats 16000000 in
set_option maxRecDepth 1000000 in
theorem impl_reducedAt.calls (k : Nat) (a0_0 : Int) (A0_1 : Option Addr) (c0_1 : Nat) (l0_1 : List S57) (a1 : Int) (r : List (List Int)) (w : World) (hr0_1 : Kd.C k57 w A0_1 l0_1.length l0_1) (hc0_1 : l0_1.length ≤ c0_1) (h : impl_reducedAt.f k a0_0 l0_1 a1 = some r) :
  Calls Try.prog 49 #[.agg #[.int .i64 a0_0, .slice A0_1 l0_1.length c0_1], .int .i64 a1] w fun e w' => ∃ v0_ : Value, e = .returned (v0_) ∧ Kd.S (Kd.slice 3 (Kd.int .i64)) 26 w' w.heap.size (fun _ => True) v0_ r ∧ Below w.heap.size w w' := by
 have hu25 := Try.underlying25; have HE := Aside0.mk hr0_1; have HC := Aside0.mk hc0_1; clear hr0_1 hc0_1; unfold impl_reducedAt.f at h; (split at h); (case isFalse => cases h); rename_i hc; obtain rfl := Option.some.inj h; clear h; obtain ⟨⟨⟨hn0, hn6⟩, hv⟩, hbn, hpos⟩ := hc; obtain ⟨n, rfl⟩ := Int.eq_ofNat_of_zero_le hn0; unfold impl_reducedAt.ok1 at hbn; rw [Int.toNat_natCast] at hv hbn hpos ⊢; have HPOS := Aside0.mk hpos; clear hpos; have HV := Aside0.mk hv; have HBN := Aside0.mk hbn; have HN := Aside0.mk (show n ≤ 6 from by omega); (have hcb : ∀ u, u < n → impl_reducedAt.cnt k (n : Int) l0_1 a1 u ≤ 24 := fun u hu => by unfold impl_reducedAt.cnt; split; omega; have := (hv u hu).2.2; omega); (have hln : ∀ v, v ≤ n → (Cf.boxL (impl_reducedAt.cnt k (n : Int) l0_1 a1) v).length ≤ 191102976 := fun v hv => Nat.le_trans (Cf.boxL_len (b := 24) fun u hu => hcb u (by omega)) (Nat.pow_le_pow_right (by omega) (show v ≤ 6 by omega))); (have hrow : ∀ v x, x ∈ Cf.boxL (impl_reducedAt.cnt k (n : Int) l0_1 a1) v → x.length = v := fun v x hx => (Cf.boxL_row hx).1); have HCB := Aside0.mk hcb; have HLN := Aside0.mk hln; have HROW := Aside0.mk hrow; (have hmf : ∀ (fn : Fn) (first cap : Array Value) (w : World), (Instr.makeFunc fn first cap).run Try.prog w = .ok (.func fn first cap) w := fun _ _ _ _ => rfl); have hnb : (n : Int) ≤ 6 := hn6; clear hn0 hn6 hv hbn hcb hln hrow; go_enter Try.func49, Try.ntmps49; (go_wp2_with (first | ((with_reducible refine gate_dst (N := 2) rfl ?_); refine box_event ?hg (N := 2) ?hd (cs := #[.int .i64 (n : Int), .slice A0_1 l0_1.length c0_1]) (t := 25) ?hr ?_; (case hd => rfl); (case hg => rfl); (case hr => exact zz9); intro bg hg w1 hbox hb; have BG1 := Aside0.mk hbox; have HGG := Aside0.mk hg; have HB1 := Aside0.mk hb; clear hg hbox hb) | ((with_reducible refine gate_dst (N := 3) rfl ?_); refine box_event ?hg (N := 3) ?hd (cs := #[.int .i64 a1]) (t := 3) ?hr ?_; (case hd => rfl); (case hg => rfl); (case hr => exact zz9); intro bq hg w2 hbox hb; have BQ2 := Aside0.mk hbox; have HQG := Aside0.mk hg; have BG2 := Aside0.mk (blk_below BG1.out hb); have HB2 := Aside0.mk (below_step HB1.out hb); clear hg hbox hb) | ((with_reducible refine gate_dst (N := 12) rfl ?_); refine Kd.S_lits (w0 := w2) (Kd.slice 3 (Kd.int .i64)) w2.heap.size 26 ?hg (N := 12) ?hd (xs := ([[]] : List (List Int))) (inner := [.slice none 0 0]) (ok := fun _ => True) (fun j k => j = 0) ?hr rfl ?hp (fun i j k hi hj => hi.trans hj.symm) (fun _ _ _ => trivial) trivial (Below.refl _ _) (Nat.le_refl _) (by simp) ?_; (case hd => rfl); (case hg => rfl); (case hr => exact zz9); (case hp => exact fun j x hx => match j, hx with | 0, rfl => Kd.M_row (Kd.R_nil _ _ _ _ _) | _ + 1, h_ => absurd h_ (by simp)); intro v12 w3 ho hb hg_ hnew_; have HS3 := Aside0.mk ho; have HB3 := Aside0.mk hb; clear ho hb hg_ hnew_))); have HBOX := Aside0.mk (show bg < w2.heap.size ∧ bq < w2.heap.size from ⟨blk_lt BG2.out, blk_lt BQ2.out⟩); (go_loopw [5, 6] (fun v5 v6 wr => ∃ v : Nat, v6 = .int .i64 (v : Int) ∧ Aside0 (v ≤ n) ∧ Aside0 (Below w2.heap.size w2 wr) ∧ Aside0 (Kd.S (Kd.slice 3 (Kd.int .i64)) 26 wr w2.heap.size (fun _ => True) v5 (Cf.boxL (impl_reducedAt.cnt k (n : Int) l0_1 a1) v))) (fun _ v _ => n - (intOf v).toNat)); case atStart => exact ⟨0, rfl, ⟨Nat.zero_le _⟩, HB3, HS3⟩
 case round =>
  clear HS3 HB3; obtain ⟨v, rfl, HVN, HBr, HSr⟩ := hrel; have hz0 : wr.cell? ⟨bg, 0, none⟩ = some (.int .i64 (n : Int)) := (blk_cell (blk_below BG2.out HBr.out) 0).trans rfl; have hz1 : wr.cell? ⟨bg, 1, none⟩ = some (.slice A0_1 l0_1.length c0_1) := (blk_cell (blk_below BG2.out HBr.out) 1).trans rfl; (have hvb : (v : Int) ≤ 6 := by have := HVN.out; omega); by_cases hvn : v < n; rotate_left
  ·have c0_ : decide ((v : Int) < (n : Int)) = false := decide_eq_false (by omega); have c1_ : decide (v < n) = false := decide_eq_false hvn; (have hv : v = n := by have := HVN.out; omega); subst hv; clear hvn; obtain ⟨g, cap, eg, _⟩ := Kd.S_form HSr.out HPOS.out; subst eg; obtain ⟨f, cur, hbg, _, _, hncap, hcm, hcs, hc, hH⟩ := Cf.S_heads HSr.out; have hdel := impl_reducedAt.del k (v : Int) a1 l0_1 A0_1 c0_1 bg bq g cap _ f cur _ w2 wr (Kd.C_below HE.out HB2.out) HC.out ⟨HBr.out, blk_below BG2.out HBr.out, blk_below BQ2.out HBr.out, hc, hH⟩ (Nat.le_trans (HLN.out v (Nat.le_refl _)) (by omega)) hncap HBN.out hcs hcm hbg (fun k_ h => h.2) ⟨by have := HBOX.out; omega, by have := HBOX.out; omega⟩; have HDEL := Aside0.mk hdel; clear hdel hH hc hcs hcm hncap hbg; (go_wp2_with fail); refine HDEL.out.mono ?_; rintro e w9 ⟨v9, rfl, hS, hb⟩; obtain ⟨A9, c9, e9⟩ := Kd.S_slice hS; subst e9; have HS9 := Aside0.mk hS; have HB9 := Aside0.mk hb; clear hS hb hz0 hz1; go_wp2; go_ret; exact ⟨_, rfl, Kd.S_mono (Kd.S_lower HS9.out HB2.out.size) (fun _ _ => trivial), below_step HB2.out HB9.out⟩
  have c0_ : decide ((v : Int) < (n : Int)) = true := decide_eq_true (by omega); have c1_ : decide (v < n) = true := decide_eq_true hvn; obtain ⟨L, hL⟩ : ∃ L, Cf.boxL (impl_reducedAt.cnt k (n : Int) l0_1 a1) v = L := ⟨_, rfl⟩; obtain ⟨A5, c5, e5⟩ := Kd.S_slice HSr.out; subst e5; have hS := HSr.out; rw [hL] at hS; have HLn := Aside0.mk (show L.length ≤ 191102976 from by rw [← hL]; exact HLN.out v (by omega)); have HLR := Aside0.mk (show ∀ x ∈ L, x.length = v from fun x hx => HROW.out v x (by rw [hL]; exact hx)); have HS := Aside0.mk hS; have HLL := Aside0.mk hL; rw [hL]; clear hS HSr; obtain ⟨hm0, hm1, hm2⟩ := HV.out v hvn; obtain ⟨m, hm⟩ := Option.isSome_iff_exists.1 hm0; rw [hm] at hm1 hm2; simp only [Option.getD_some] at hm1 hm2; have HM := Aside0.mk hm; (have hcn : impl_reducedAt.cnt k (n : Int) l0_1 a1 v = if (v : Int) = a1 then 1 else m.toNat := by unfold impl_reducedAt.cnt; rw [hm]; rfl); obtain ⟨m1, em⟩ : ∃ x : Int, wrap64 (m - 1) = x := ⟨_, rfl⟩; have emw : IntKind.i64.wrap (m - 1) = m1 := (i64_w _).trans em; have HM1 := Aside0.mk (show m1 = m - 1 ∧ 0 ≤ m ∧ m ≤ 24 from ⟨by rw [← em]; unfold wrap64; omega, hm1, hm2⟩); have HVLT := Aside0.mk hvn; clear hm hm0 hm1 hm2 hL hvn; (go_wp2_with fail); refine (impl_Valence.calls k (n : Int) _ _ l0_1 (v : Int) m _ (Kd.C_below (Kd.C_below HE.out HB2.out) HBr.out) HC.out HM.out).mono ?_; rintro e w5 ⟨rfl, hb⟩; have HB5 := Aside0.mk (below_step HBr.out hb); have HS5 := Aside0.mk (Kd.S_mono (Kd.S_bound (Kd.S_below HS.out hb)) (ok' := fun k_ => k_ < w5.heap.size) fun k_ hk => hk.2.2.1); clear hb hz0 hz1 HS HBr; have hq0 : w5.cell? ⟨bq, 0, none⟩ = some (.int .i64 a1) := (blk_cell (blk_below BQ2.out HB5.out) 0).trans rfl; by_cases hvq : (v : Int) = a1
  ·have c4_ : ((v : Int) == a1) = true := beq_iff_eq.2 hvq; have hcn2 : impl_reducedAt.cnt k (n : Int) l0_1 a1 v = impl_reducedAt.cnt k (n : Int) l0_1 a1 v ∧ impl_reducedAt.cnt k (n : Int) l0_1 a1 v = 1 := ⟨rfl, by rw [hcn, if_pos hvq]⟩; have HCN := Aside0.mk (show impl_reducedAt.cnt k (n : Int) l0_1 a1 v = 1 ∧ (1 : Nat) ≤ 24 from ⟨hcn2.2, by omega⟩); clear hcn hcn2 hvq; (try go_wp2); (go_loopw [8, 28] (fun v8 v28 wr => ∃ i : Nat, v28 = .int .i64 (i : Int) ∧ Aside0 (i ≤ L.length ∧ w5.heap.size ≤ wr.heap.size) ∧ Aside0 (Below w2.heap.size w2 wr) ∧ Aside0 (Kd.S (Kd.slice 3 (Kd.int .i64)) 26 wr w2.heap.size (fun k_ => k_ < w5.heap.size) (.slice A5 L.length c5) L) ∧ Aside0 (Kd.S (Kd.slice 3 (Kd.int .i64)) 26 wr w2.heap.size (fun k_ => w5.heap.size ≤ k_) v8 (Cf.outB 1 L i))) (fun _ v _ => L.length - (intOf v).toNat)); case atStart => exact ⟨0, rfl, ⟨Nat.zero_le _, Nat.le_refl _⟩, HB5, HS5, ⟨Kd.S_nil _ _ _ _ _⟩⟩
   case round =>
    clear HS5 hq0; obtain ⟨i, rfl, HI, HBr, HLr, HSn⟩ := hrel; by_cases hlt : i < L.length; rotate_left
    ·have c2_ : decide ((i : Int) < (L.length : Int)) = false := decide_eq_false (by omega); have c3_ : decide (i < L.length) = false := decide_eq_false hlt; (have hi : i = L.length := by have := HI.out; omega); subst hi; clear hlt; go_wp2; go_roundw
     case rel =>
      refine ⟨v + 1, by go_num, ⟨HVLT.out⟩, HBr, ⟨?_⟩⟩; have h1 := Cf.outB_all (impl_reducedAt.cnt k (n : Int) l0_1 a1) v; rw [HLL.out, HCN.out.1] at h1; rw [← h1]; exact Kd.S_mono HSn.out fun _ _ => trivial
     case measure =>
      have := HVLT.out; (simp [intOf]); omega
    have c2_ : decide ((i : Int) < (L.length : Int)) = true := decide_eq_true (by omega); have c3_ : decide (i < L.length) = true := decide_eq_true hlt; obtain ⟨x, hxi⟩ : ∃ x, L[i]? = some x := ⟨_, List.getElem?_eq_getElem hlt⟩; (have hx : rd_L3 L (i : Int) = x := by unfold rd_L3; rw [Int.toNat_natCast, List.getD_eq_getElem?_getD, hxi]; rfl); (have p1 : (0 : Int) ≤ (i : Int) := by omega); (have p2 : (i : Int) < (L.length : Int) := by omega); obtain ⟨gL, _, _, eg, _, _, _⟩ := at_L3 (Kd.S_reads' HLr.out).2.2 (i : Int) p1 p2; subst eg; obtain ⟨cc, _, hM, hcell⟩ := Kd.S_get HLr.out ([] : List Int) (i : Int) p1 p2; obtain ⟨vx, hvx, hRx⟩ := hM; subst hvx; replace hcell := hcell 0 vx rfl; rw [show (L.getD ((i : Int)).toNat []) = x from hx] at hRx; (replace hRx := Kd.R_mono hRx (ok' := fun k_ => k_ < w5.heap.size) fun k_ hk => hk.1); obtain ⟨Ai, ci, ei⟩ := Kd.R_slice hRx; subst ei; rw [Int.toNat_natCast, show i * (Kd.slice 3 (Kd.int .i64)).sz + 0 = i from Nat.mul_one i] at hcell; have HRi := Aside0.mk hRx; clear hRx; (have hib : (i : Int) ≤ 191102976 := by have := HLn.out; omega); have HLT := Aside0.mk hlt; have HXI := Aside0.mk hxi; have HXL := Aside0.mk (show x.length = v from HLR.out x (List.mem_of_getElem? hxi)); (have hxl : (x.length : Int) ≤ 6 := by have := HXL.out; have := HVLT.out; have := HN.out; omega); have CP := Aside0.mk (show impl_copyInts.f x = some x from by unfold impl_copyInts.f; rw [if_pos (by simp only [List.length_nil]; omega)]; rfl); clear hxi hlt hx; (try go_wp2); (go_loopw [8, 11] (fun v8 v11 wi => ∃ j : Nat, v11 = .int .i64 (j : Int) ∧ Aside0 (j ≤ 1 ∧ w5.heap.size ≤ wi.heap.size) ∧ Aside0 (Below w2.heap.size w2 wi) ∧ Aside0 (Kd.S (Kd.slice 3 (Kd.int .i64)) 26 wi w2.heap.size (fun k_ => k_ < w5.heap.size) (.slice (some gL) L.length c5) L) ∧ Aside0 (Kd.S (Kd.slice 3 (Kd.int .i64)) 26 wi w2.heap.size (fun k_ => w5.heap.size ≤ k_) v8 (Cf.outB 1 L i ++ Cf.extB j x)) ∧ Aside0 (Kd.R (Kd.int .i64) 3 wi w2.heap.size (fun k_ => k_ < w5.heap.size) (.slice Ai x.length ci) x)) (fun _ v _ => 1 - (intOf v).toNat)); case atStart => exact ⟨0, rfl, ⟨Nat.zero_le _, HI.out.2⟩, HBr, HLr, ⟨by rw [Cf.extB_zero, List.append_nil]; exact HSn.out⟩, HRi⟩
    case round =>
     obtain ⟨j, rfl, HJ, HBi, HLi, HSi, HRj⟩ := hrel; (have hjb : (j : Int) ≤ 24 := by have := HJ.out; have := HCN.out; omega); by_cases hj : j < 1
     ·(obtain rfl : j = 0 := by omega); have HJN := Aside0.mk hj; clear hj; have HLA := Aside0.mk (show (Cf.outB 1 L i ++ Cf.extB 0 x).length ≤ 5000000000 from by rw [List.length_append, Cf.extB_len]; have a1_ := Cf.outB_len 1 L i; have a2_ := HCN.out; have a3_ := HJ.out; have a4_ := Nat.mul_le_mul HLn.out (show 1 ≤ 24 by omega); omega); (go_wp2_with (first | ((with_reducible refine gate_callee (f := 86) rfl ?_); refine goesL_ (some 39) rfl rfl Try.func86 (by kernel_rfl) rfl #[.slice Ai x.length ci] rfl zz28 ?_; refine (impl_copyInts.calls _ _ x x _ (Kd.R_reads' HRj.out).2.2 (Kd.R_reads' HRj.out).2.1 CP.out).mono ?_; rintro e wA ⟨vA, rfl, hoA, hbA⟩; refine ⟨_, rfl, ?_⟩; have HOA := Aside0.mk hoA; have HBA := Aside0.mk hbA; clear hoA hbA) | ((with_reducible refine gate_builtin (b := .append) (xs := #[.tmp 39, .tmp 41]) rfl ?_); at_builtin; refine Kd.R_append (Kd.int .i64) (w0 := wr) wr.heap.size rfl (.tmp 39) (.tmp 41) 26 3 (.int .i64 0) 8 rfl Try.underlying26 info3 rfl (by decide) (by omega) vA x (0 : Int) [.int .i64 (0 : Int)] (fun _ => True) (fun _ => False) rfl rfl rfl (fun _ hk => hk.elim) (fun _ _ => trivial) HOA.out HBA.out (below_size HBA.out) (by have := hxl; omega) ?_; intro vC wC ho hb hg hat; obtain ⟨Ad, cd, ed⟩ := Kd.R_slice ho; subst ed; rw [show (x ++ [(0 : Int)]).length = x.length + 1 from List.length_append] at ho; have HD := Aside0.mk (Kd.R_mono (Kd.R_bound ho) (ok' := fun k_ => wr.heap.size ≤ k_) fun k_ hk => hk.2.1); have HBC := Aside0.mk hb; clear ho hb hg hat) | ((with_reducible refine gate_builtin (b := .append) (xs := #[.tmp 37, .tmp 43]) rfl ?_); at_builtin; refine Kd.S_append (Kd.slice 3 (Kd.int .i64)) (w0 := w2) w2.heap.size rfl (.tmp 37) (.tmp 43) 34 26 (.slice none 0 0) 24 rfl Try.underlying34 info26 rfl (by decide) (by omega) u8 (Cf.outB 1 L i ++ Cf.extB 0 x) (x ++ [(0 : Int)]) [.slice Ad (x.length + 1) cd] (fun k_ => w5.heap.size ≤ k_) (fun k_ => wr.heap.size ≤ k_) rfl rfl (Kd.M_row (Kd.R_lower HD.out (below_size HBi.out))) (fun k_ hk => ⟨by have := HJ.out; omega, fun e => by have := Kd.S_lt HSi.out k_ e.symm; omega⟩) (fun k_ hk => by have := HJ.out; have := HBC.out.size; omega) (Kd.S_mono (Kd.S_below (Kd.S_bound HSi.out) HBC.out) fun k_ hk => ⟨hk.1, fun h => by have := hk.2.2.1; omega⟩) (below_step HBi.out HBC.out) (below_size (below_step HBi.out HBC.out)) (by have := HLA.out; omega) ?_; intro vE wE ho hb hg hat; have HOE := Aside0.mk ho; have HBE := Aside0.mk hb; have HLE := Aside0.mk (Kd.S_grown (Kd.S_below (Kd.S_bound HLi.out) HBC.out) hg fun k_ hk e => by have := HSi.out.choose_spec.1 k_ e.symm; have := hk.1; omega); have HZE := Aside0.mk hg.size; have HRE := Aside0.mk (Kd.R_step (Kd.R_below HRj.out HBC.out) fun k_ hk hlt => hg.block k_ hlt fun e => by have := HSi.out.choose_spec.1 k_ e.symm; omega); clear ho hb hg hat))); go_roundw
      case rel =>
       refine ⟨0 + 1, by go_num, ⟨by have := HJN.out; omega, by have := HBC.out.size; have := HZE.out; have := HJ.out; omega⟩, HBE, ⟨Kd.S_mono HLE.out fun k_ hk => hk.1⟩, ⟨?_⟩, HRE⟩; rw [Cf.extB_succ, ← List.append_assoc]; exact HOE.out
      case measure =>
       have := HJN.out; first | (simp [intOf]; done) | (simp [intOf]; omega)
     have hj2 := HJ.out; (have hjn : j = 1 := by have := HJ.out; omega); subst hjn; clear hj; go_wp2; go_roundw
     case rel =>
      refine ⟨i + 1, by go_num, ⟨by have := HLT.out; omega, HJ.out.2⟩, HBi, HLi, ⟨?_⟩⟩; rw [Cf.outB_succ _ HXI.out]; exact HSi.out
     case measure =>
      have := HLT.out; (simp [intOf]); omega
  have c4_ : ((v : Int) == a1) = false := beq_eq_false_iff_ne.2 hvq; have hcn2 : impl_reducedAt.cnt k (n : Int) l0_1 a1 v = impl_reducedAt.cnt k (n : Int) l0_1 a1 v ∧ ((impl_reducedAt.cnt k (n : Int) l0_1 a1 v : Nat) : Int) = m1 + 1 ∧ m1 ≤ 23 := ⟨rfl, by rw [hcn, if_neg hvq]; have := HM1.out; omega, by have := HM1.out; omega⟩; have HCN0 := Aside0.mk hcn2; obtain ⟨cn, hcn3⟩ : ∃ cn, impl_reducedAt.cnt k (n : Int) l0_1 a1 v = cn := ⟨_, rfl⟩; have HCN := Aside0.mk (show impl_reducedAt.cnt k (n : Int) l0_1 a1 v = cn ∧ cn ≤ 24 ∧ (cn : Int) = m1 + 1 from ⟨hcn3, by have := HCN0.out.2; omega, by have := HCN0.out.2; omega⟩); clear hcn hcn2 hvq hcn3 HCN0; (try go_wp2); (go_loopw [8, 28] (fun v8 v28 wr => ∃ i : Nat, v28 = .int .i64 (i : Int) ∧ Aside0 (i ≤ L.length ∧ w5.heap.size ≤ wr.heap.size) ∧ Aside0 (Below w2.heap.size w2 wr) ∧ Aside0 (Kd.S (Kd.slice 3 (Kd.int .i64)) 26 wr w2.heap.size (fun k_ => k_ < w5.heap.size) (.slice A5 L.length c5) L) ∧ Aside0 (Kd.S (Kd.slice 3 (Kd.int .i64)) 26 wr w2.heap.size (fun k_ => w5.heap.size ≤ k_) v8 (Cf.outB cn L i))) (fun _ v _ => L.length - (intOf v).toNat)); case atStart => exact ⟨0, rfl, ⟨Nat.zero_le _, Nat.le_refl _⟩, HB5, HS5, ⟨Kd.S_nil _ _ _ _ _⟩⟩
  case round =>
   clear HS5 hq0; obtain ⟨i, rfl, HI, HBr, HLr, HSn⟩ := hrel; by_cases hlt : i < L.length; rotate_left
   ·have c2_ : decide ((i : Int) < (L.length : Int)) = false := decide_eq_false (by omega); have c3_ : decide (i < L.length) = false := decide_eq_false hlt; (have hi : i = L.length := by have := HI.out; omega); subst hi; clear hlt; go_wp2; go_roundw
    case rel =>
     refine ⟨v + 1, by go_num, ⟨HVLT.out⟩, HBr, ⟨?_⟩⟩; have h1 := Cf.outB_all (impl_reducedAt.cnt k (n : Int) l0_1 a1) v; rw [HLL.out, HCN.out.1] at h1; rw [← h1]; exact Kd.S_mono HSn.out fun _ _ => trivial
    case measure =>
     have := HVLT.out; (simp [intOf]); omega
   have c2_ : decide ((i : Int) < (L.length : Int)) = true := decide_eq_true (by omega); have c3_ : decide (i < L.length) = true := decide_eq_true hlt; obtain ⟨x, hxi⟩ : ∃ x, L[i]? = some x := ⟨_, List.getElem?_eq_getElem hlt⟩; (have hx : rd_L3 L (i : Int) = x := by unfold rd_L3; rw [Int.toNat_natCast, List.getD_eq_getElem?_getD, hxi]; rfl); (have p1 : (0 : Int) ≤ (i : Int) := by omega); (have p2 : (i : Int) < (L.length : Int) := by omega); obtain ⟨gL, _, _, eg, _, _, _⟩ := at_L3 (Kd.S_reads' HLr.out).2.2 (i : Int) p1 p2; subst eg; obtain ⟨cc, _, hM, hcell⟩ := Kd.S_get HLr.out ([] : List Int) (i : Int) p1 p2; obtain ⟨vx, hvx, hRx⟩ := hM; subst hvx; replace hcell := hcell 0 vx rfl; rw [show (L.getD ((i : Int)).toNat []) = x from hx] at hRx; (replace hRx := Kd.R_mono hRx (ok' := fun k_ => k_ < w5.heap.size) fun k_ hk => hk.1); obtain ⟨Ai, ci, ei⟩ := Kd.R_slice hRx; subst ei; rw [Int.toNat_natCast, show i * (Kd.slice 3 (Kd.int .i64)).sz + 0 = i from Nat.mul_one i] at hcell; have HRi := Aside0.mk hRx; clear hRx; (have hib : (i : Int) ≤ 191102976 := by have := HLn.out; omega); have HLT := Aside0.mk hlt; have HXI := Aside0.mk hxi; have HXL := Aside0.mk (show x.length = v from HLR.out x (List.mem_of_getElem? hxi)); (have hxl : (x.length : Int) ≤ 6 := by have := HXL.out; have := HVLT.out; have := HN.out; omega); have CP := Aside0.mk (show impl_copyInts.f x = some x from by unfold impl_copyInts.f; rw [if_pos (by simp only [List.length_nil]; omega)]; rfl); clear hxi hlt hx; (try go_wp2); (go_loopw [8, 11] (fun v8 v11 wi => ∃ j : Nat, v11 = .int .i64 (j : Int) ∧ Aside0 (j ≤ cn ∧ w5.heap.size ≤ wi.heap.size) ∧ Aside0 (Below w2.heap.size w2 wi) ∧ Aside0 (Kd.S (Kd.slice 3 (Kd.int .i64)) 26 wi w2.heap.size (fun k_ => k_ < w5.heap.size) (.slice (some gL) L.length c5) L) ∧ Aside0 (Kd.S (Kd.slice 3 (Kd.int .i64)) 26 wi w2.heap.size (fun k_ => w5.heap.size ≤ k_) v8 (Cf.outB cn L i ++ Cf.extB j x)) ∧ Aside0 (Kd.R (Kd.int .i64) 3 wi w2.heap.size (fun k_ => k_ < w5.heap.size) (.slice Ai x.length ci) x)) (fun _ v _ => cn - (intOf v).toNat)); case atStart => exact ⟨0, rfl, ⟨Nat.zero_le _, HI.out.2⟩, HBr, HLr, ⟨by rw [Cf.extB_zero, List.append_nil]; exact HSn.out⟩, HRi⟩
   case round =>
    obtain ⟨j, rfl, HJ, HBi, HLi, HSi, HRj⟩ := hrel; (have hjb : (j : Int) ≤ 24 := by have := HJ.out; have := HCN.out; omega); by_cases hj : j < cn
    ·have d0 : decide ((j : Int) ≤ m1) = true := decide_eq_true (by have := HCN.out; omega); have HJN := Aside0.mk hj; clear hj; have HLA := Aside0.mk (show (Cf.outB cn L i ++ Cf.extB j x).length ≤ 5000000000 from by rw [List.length_append, Cf.extB_len]; have a1_ := Cf.outB_len cn L i; have a2_ := HCN.out; have a3_ := HJ.out; have a4_ := Nat.mul_le_mul HLn.out (show cn ≤ 24 by omega); omega); (go_wp2_with (first | ((with_reducible refine gate_callee (f := 86) rfl ?_); refine goesL_ (some 39) rfl rfl Try.func86 (by kernel_rfl) rfl #[.slice Ai x.length ci] rfl zz28 ?_; refine (impl_copyInts.calls _ _ x x _ (Kd.R_reads' HRj.out).2.2 (Kd.R_reads' HRj.out).2.1 CP.out).mono ?_; rintro e wA ⟨vA, rfl, hoA, hbA⟩; refine ⟨_, rfl, ?_⟩; have HOA := Aside0.mk hoA; have HBA := Aside0.mk hbA; clear hoA hbA) | ((with_reducible refine gate_builtin (b := .append) (xs := #[.tmp 39, .tmp 41]) rfl ?_); at_builtin; refine Kd.R_append (Kd.int .i64) (w0 := wr) wr.heap.size rfl (.tmp 39) (.tmp 41) 26 3 (.int .i64 0) 8 rfl Try.underlying26 info3 rfl (by decide) (by omega) vA x (j : Int) [.int .i64 (j : Int)] (fun _ => True) (fun _ => False) rfl rfl rfl (fun _ hk => hk.elim) (fun _ _ => trivial) HOA.out HBA.out (below_size HBA.out) (by have := hxl; omega) ?_; intro vC wC ho hb hg hat; obtain ⟨Ad, cd, ed⟩ := Kd.R_slice ho; subst ed; rw [show (x ++ [(j : Int)]).length = x.length + 1 from List.length_append] at ho; have HD := Aside0.mk (Kd.R_mono (Kd.R_bound ho) (ok' := fun k_ => wr.heap.size ≤ k_) fun k_ hk => hk.2.1); have HBC := Aside0.mk hb; clear ho hb hg hat) | ((with_reducible refine gate_builtin (b := .append) (xs := #[.tmp 37, .tmp 43]) rfl ?_); at_builtin; refine Kd.S_append (Kd.slice 3 (Kd.int .i64)) (w0 := w2) w2.heap.size rfl (.tmp 37) (.tmp 43) 34 26 (.slice none 0 0) 24 rfl Try.underlying34 info26 rfl (by decide) (by omega) u8 (Cf.outB cn L i ++ Cf.extB j x) (x ++ [(j : Int)]) [.slice Ad (x.length + 1) cd] (fun k_ => w5.heap.size ≤ k_) (fun k_ => wr.heap.size ≤ k_) rfl rfl (Kd.M_row (Kd.R_lower HD.out (below_size HBi.out))) (fun k_ hk => ⟨by have := HJ.out; omega, fun e => by have := Kd.S_lt HSi.out k_ e.symm; omega⟩) (fun k_ hk => by have := HJ.out; have := HBC.out.size; omega) (Kd.S_mono (Kd.S_below (Kd.S_bound HSi.out) HBC.out) fun k_ hk => ⟨hk.1, fun h => by have := hk.2.2.1; omega⟩) (below_step HBi.out HBC.out) (below_size (below_step HBi.out HBC.out)) (by have := HLA.out; omega) ?_; intro vE wE ho hb hg hat; have HOE := Aside0.mk ho; have HBE := Aside0.mk hb; have HLE := Aside0.mk (Kd.S_grown (Kd.S_below (Kd.S_bound HLi.out) HBC.out) hg fun k_ hk e => by have := HSi.out.choose_spec.1 k_ e.symm; have := hk.1; omega); have HZE := Aside0.mk hg.size; have HRE := Aside0.mk (Kd.R_step (Kd.R_below HRj.out HBC.out) fun k_ hk hlt => hg.block k_ hlt fun e => by have := HSi.out.choose_spec.1 k_ e.symm; omega); clear ho hb hg hat))); go_roundw
     case rel =>
      refine ⟨j + 1, by go_num, ⟨by have := HJN.out; omega, by have := HBC.out.size; have := HZE.out; have := HJ.out; omega⟩, HBE, ⟨Kd.S_mono HLE.out fun k_ hk => hk.1⟩, ⟨?_⟩, HRE⟩; rw [Cf.extB_succ, ← List.append_assoc]; exact HOE.out
     case measure =>
      have := HJN.out; first | (simp [intOf]; done) | (simp [intOf]; omega)
    have d0 : decide ((j : Int) ≤ m1) = false := decide_eq_false (by have := HCN.out; omega); (have hjn : j = cn := by have := HJ.out; omega); subst hjn; clear hj; go_wp2; go_roundw
    case rel =>
     refine ⟨i + 1, by go_num, ⟨by have := HLT.out; omega, HJ.out.2⟩, HBi, HLi, ⟨?_⟩⟩; rw [Cf.outB_succ _ HXI.out]; exact HSi.out
    case measure =>
     have := HLT.out; (simp [intOf]); omega
/-- The first i rows with -1 at q. -/
def impl_ParkingsOf.upS (q : Nat) (L : List (List Int)) (i : Nat) : List (List Int) := (L.take i).map (fun x => x.set q (-1)) ++ L.drop i
theorem impl_ParkingsOf.upS_len (q : Nat) (L : List (List Int)) (i : Nat) : (impl_ParkingsOf.upS q L i).length = L.length := by unfold impl_ParkingsOf.upS; rw [List.length_append, List.length_map, List.length_take, List.length_drop]; omega
theorem impl_ParkingsOf.upS_get (q : Nat) {L : List (List Int)} {i : Nat} (h : i < L.length) : (impl_ParkingsOf.upS q L i).getD i [] = L[i] := by
 unfold impl_ParkingsOf.upS; rw [List.getD_eq_getElem?_getD, List.getElem?_append_right (by rw [List.length_map, List.length_take]; omega), List.length_map, List.length_take, Nat.min_eq_left (by omega), Nat.sub_self, List.getElem?_drop, Nat.add_zero, List.getElem?_eq_getElem h]; rfl
theorem impl_ParkingsOf.upS_set (q : Nat) {L : List (List Int)} {i : Nat} (h : i < L.length) : (impl_ParkingsOf.upS q L i).set i (L[i].set q (-1)) = impl_ParkingsOf.upS q L (i + 1) := by
 unfold impl_ParkingsOf.upS; (have hl : ((L.take i).map fun x => x.set q (-1)).length = i := by rw [List.length_map, List.length_take]; omega); rw [List.set_append_right _ _ (by omega), hl, Nat.sub_self, List.drop_eq_getElem_cons h, List.set_cons_zero, List.take_succ_eq_append_getElem h, List.map_append, List.append_assoc]; rfl
def impl_ParkingsOf.f (k : Nat) (a0 : Int) (es : List S57) (q : Int) : Option (List (List Int) × Bool) :=
 (impl_isVertex.f a0 es q).bind fun t => if t = true then (impl_GroupOrder.f k a0 es).bind fun c => if c ≤ 400 then (impl_reducedAt.f k a0 es q).bind fun L => if 0 ≤ q ∧ (∀ x ∈ L, q < (x.length : Int) ∧ x.length ≤ 1000000) ∧ L.length ≤ 1000000000 then some (L.map (fun x => x.set q.toNat (-1)), true) else none else some ([], false) else some ([], false)
theorem impl_ParkingsOf.mono : ∀ a0 a1 a2 k, LeO (impl_ParkingsOf.f k a0 a1 a2) (impl_ParkingsOf.f (k + 1) a0 a1 a2) := by
 intro a0 a1 a2 k; unfold impl_ParkingsOf.f; exact LeO.bind (LeO.refl _) fun t => LeO.ite (LeO.bind (impl_GroupOrder.mono _ _ k) fun c => LeO.ite (LeO.bind (impl_reducedAt.mono _ _ _ k) fun _ => LeO.refl _) (LeO.refl _)) (LeO.refl _)
set_option maxHeartbeats 8000000 in
set_option maxRecDepth 1000000 in
theorem impl_ParkingsOf.calls (k : Nat) (a0_0 : Int) (A0_1 : Option Addr) (c0_1 : Nat) (l0_1 : List S57) (a1 : Int) (r1 : List (List Int)) (r2 : Bool) (w : World) (hr0_1 : Kd.C k57 w A0_1 l0_1.length l0_1) (hc0_1 : l0_1.length ≤ c0_1) (h : impl_ParkingsOf.f k a0_0 l0_1 a1 = some (r1, r2)) :
  Calls Try.prog 14 #[.agg #[.int .i64 a0_0, .slice A0_1 l0_1.length c0_1], .int .i64 a1] w fun e w' => ∃ v0_ : Value, e = .returned (.tuple #[v0_, .bool r2]) ∧ Kd.S (Kd.slice 3 (Kd.int .i64)) 26 w' w.heap.size (fun _ => True) v0_ r1 ∧ Below w.heap.size w w' := by
 have hu25 := Try.underlying25; have HE := Aside0.mk hr0_1; have HC := Aside0.mk hc0_1; clear hr0_1 hc0_1; unfold impl_ParkingsOf.f at h; replace h := Option.bind_eq_some_iff.mp h; obtain ⟨t, ht, h⟩ := h; have HTT := Aside0.mk ht; clear ht
 cases t with
 | false =>
  rw [if_neg (by simp)] at h; obtain ⟨rfl, rfl⟩ := Prod.mk.inj (Option.some.inj h); clear h; go_enter Try.func14, Try.ntmps14; (go_wp2_with (first | ((with_reducible refine gate_dst (N := 2) rfl ?_); refine box_event ?hg (N := 2) ?hd (cs := #[.int .i64 a0_0, .slice A0_1 l0_1.length c0_1]) (t := 25) ?hr ?_; (case hd => rfl); (case hg => rfl); (case hr => exact zz9); intro gg hg w1 hbox hb; have BG1 := Aside0.mk hbox; have HB1 := Aside0.mk hb; have hz0 : w1.cell? ⟨gg, 0, none⟩ = some (.int .i64 a0_0) := (blk_cell BG1.out 0).trans rfl; have hz1 : w1.cell? ⟨gg, 1, none⟩ = some (.slice A0_1 l0_1.length c0_1) := (blk_cell BG1.out 1).trans rfl; clear hg hbox hb))); refine (impl_isVertex.calls a0_0 _ _ l0_1 a1 false _ (Kd.C_below HE.out HB1.out) HC.out HTT.out).mono ?_; rintro e w2 ⟨rfl, hb⟩; have BG2 := Aside0.mk (blk_below BG1.out hb); have HB2 := Aside0.mk (below_step HB1.out hb); clear hb hz0 hz1; go_wp2; (go_ret2); exact ⟨_, rfl, Kd.S_nil _ _ _ _ _, HB2.out⟩
 | true =>
  rw [if_pos rfl] at h; replace h := Option.bind_eq_some_iff.mp h; obtain ⟨c, hc, h⟩ := h; have HCT := Aside0.mk hc; clear hc; by_cases hle : c ≤ 400; rotate_left
  ·rw [if_neg hle] at h; obtain ⟨rfl, rfl⟩ := Prod.mk.inj (Option.some.inj h); clear h; have d0 : decide (c > 400) = true := decide_eq_true (by omega); have d1 : decide (400 < c) = true := decide_eq_true (by omega); go_enter Try.func14, Try.ntmps14; (go_wp2_with (first | ((with_reducible refine gate_dst (N := 2) rfl ?_); refine box_event ?hg (N := 2) ?hd (cs := #[.int .i64 a0_0, .slice A0_1 l0_1.length c0_1]) (t := 25) ?hr ?_; (case hd => rfl); (case hg => rfl); (case hr => exact zz9); intro gg hg w1 hbox hb; have BG1 := Aside0.mk hbox; have HB1 := Aside0.mk hb; have hz0 : w1.cell? ⟨gg, 0, none⟩ = some (.int .i64 a0_0) := (blk_cell BG1.out 0).trans rfl; have hz1 : w1.cell? ⟨gg, 1, none⟩ = some (.slice A0_1 l0_1.length c0_1) := (blk_cell BG1.out 1).trans rfl; clear hg hbox hb))); refine (impl_isVertex.calls a0_0 _ _ l0_1 a1 true _ (Kd.C_below HE.out HB1.out) HC.out HTT.out).mono ?_; rintro e w2 ⟨rfl, hb⟩; have BG2 := Aside0.mk (blk_below BG1.out hb); have HB2 := Aside0.mk (below_step HB1.out hb); clear hb hz0 hz1; have hz0 : w2.cell? ⟨gg, 0, none⟩ = some (.int .i64 a0_0) := (blk_cell BG2.out 0).trans rfl; have hz1 : w2.cell? ⟨gg, 1, none⟩ = some (.slice A0_1 l0_1.length c0_1) := (blk_cell BG2.out 1).trans rfl; (go_wp2_with fail); refine (impl_GroupOrder.calls k a0_0 _ _ l0_1 c _ (Kd.C_below HE.out HB2.out) HC.out HCT.out).mono ?_; rintro e w3 ⟨rfl, hb⟩; have BG3 := Aside0.mk (blk_below BG2.out hb); have HB3 := Aside0.mk (below_step HB2.out hb); clear hb hz0 hz1 BG2 BG1; go_wp2; (go_ret2); exact ⟨_, rfl, Kd.S_nil _ _ _ _ _, HB3.out⟩
  rw [if_pos hle] at h; replace h := Option.bind_eq_some_iff.mp h; obtain ⟨L, hL, h⟩ := h; (split at h); (case isFalse => cases h); rename_i hok; obtain ⟨rfl, rfl⟩ := Prod.mk.inj (Option.some.inj h); clear h; obtain ⟨hq0, hql, hLl⟩ := hok; obtain ⟨q, rfl⟩ := Int.eq_ofNat_of_zero_le hq0; rw [Int.toNat_natCast]; have HLL := Aside0.mk hL; have HQL := Aside0.mk hql; have HLn := Aside0.mk hLl; (have hnb : (L.length : Int) ≤ 1000000000 := by omega); have d0 : decide (c > 400) = false := decide_eq_false (by omega); have d1 : decide (400 < c) = false := decide_eq_false (by omega); clear hq0 hql hLl hL hle; go_enter Try.func14, Try.ntmps14; (go_wp2_with (first | ((with_reducible refine gate_dst (N := 2) rfl ?_); refine box_event ?hg (N := 2) ?hd (cs := #[.int .i64 a0_0, .slice A0_1 l0_1.length c0_1]) (t := 25) ?hr ?_; (case hd => rfl); (case hg => rfl); (case hr => exact zz9); intro gg hg w1 hbox hb; have BG1 := Aside0.mk hbox; have HB1 := Aside0.mk hb; have hz0 : w1.cell? ⟨gg, 0, none⟩ = some (.int .i64 a0_0) := (blk_cell BG1.out 0).trans rfl; have hz1 : w1.cell? ⟨gg, 1, none⟩ = some (.slice A0_1 l0_1.length c0_1) := (blk_cell BG1.out 1).trans rfl; clear hg hbox hb))); refine (impl_isVertex.calls a0_0 _ _ l0_1 (q : Int) true _ (Kd.C_below HE.out HB1.out) HC.out HTT.out).mono ?_; rintro e w2 ⟨rfl, hb⟩; have BG2 := Aside0.mk (blk_below BG1.out hb); have HB2 := Aside0.mk (below_step HB1.out hb); clear hb hz0 hz1; have hz0 : w2.cell? ⟨gg, 0, none⟩ = some (.int .i64 a0_0) := (blk_cell BG2.out 0).trans rfl; have hz1 : w2.cell? ⟨gg, 1, none⟩ = some (.slice A0_1 l0_1.length c0_1) := (blk_cell BG2.out 1).trans rfl; (go_wp2_with fail); refine (impl_GroupOrder.calls k a0_0 _ _ l0_1 c _ (Kd.C_below HE.out HB2.out) HC.out HCT.out).mono ?_; rintro e w3 ⟨rfl, hb⟩; have BG3 := Aside0.mk (blk_below BG2.out hb); have HB3 := Aside0.mk (below_step HB2.out hb); clear hb hz0 hz1 BG2 BG1; have hz0 : w3.cell? ⟨gg, 0, none⟩ = some (.int .i64 a0_0) := (blk_cell BG3.out 0).trans rfl; have hz1 : w3.cell? ⟨gg, 1, none⟩ = some (.slice A0_1 l0_1.length c0_1) := (blk_cell BG3.out 1).trans rfl; (go_wp2_with fail); refine (impl_reducedAt.calls k a0_0 _ _ l0_1 (q : Int) L _ (Kd.C_below HE.out HB3.out) HC.out HLL.out).mono ?_; rintro e w4 ⟨v4, rfl, hS, hb⟩; have HB4 := Aside0.mk (below_step HB3.out hb); have hS4 := Kd.S_lower hS HB3.out.size; obtain ⟨A, cA, eA⟩ := Kd.S_slice hS4; subst eA; have HS4 := Aside0.mk hS4; clear hS hb hz0 hz1 hS4 BG3; (try go_wp2); (go_loopw [23] (fun v23 wr => ∃ i : Nat, v23 = .int .i64 (i : Int) ∧ Aside0 (i ≤ L.length) ∧ Aside0 (Below w.heap.size w wr) ∧ Aside0 (Kd.S (Kd.slice 3 (Kd.int .i64)) 26 wr w.heap.size (fun _ => True) (.slice A L.length cA) (impl_ParkingsOf.upS q L i))) (fun v _ => L.length - (intOf v).toNat)); case atStart => exact ⟨0, rfl, ⟨Nat.zero_le _⟩, HB4, HS4⟩
  case round =>
   clear HS4 HB4; obtain ⟨i, rfl, HI, HBr, HS⟩ := hrel; by_cases hlt : i < L.length; rotate_left
   ·have c0_ : decide ((i : Int) < (L.length : Int)) = false := decide_eq_false (by omega); have c1_ : decide (i < L.length) = false := decide_eq_false hlt; (have hi : i = L.length := by have := HI.out; omega); subst hi; clear hlt; (have eU : impl_ParkingsOf.upS q L L.length = L.map (fun x => x.set q (-1)) := by unfold impl_ParkingsOf.upS; rw [List.take_length, List.drop_length, List.append_nil]); have hS := HS.out; rw [eU] at hS; have HS9 := Aside0.mk hS; clear hS HS eU; go_wp2; (go_ret2); exact ⟨_, rfl, HS9.out, HBr.out⟩
   have c0_ : decide ((i : Int) < (L.length : Int)) = true := decide_eq_true (by omega); have c1_ : decide (i < L.length) = true := decide_eq_true hlt; (have p1 : (0 : Int) ≤ (i : Int) := by omega); (have p2 : (i : Int) < (L.length : Int) := by omega); (have hib : (i : Int) ≤ 1000000000 := by omega); have hS := HS.out; rw [← impl_ParkingsOf.upS_len q L i] at hS; obtain ⟨g, cap, eg, _⟩ := Kd.S_form hS (by rw [impl_ParkingsOf.upS_len]; omega); injection eg with eA _ eC; subst eA; subst eC; rw [impl_ParkingsOf.upS_len q L i] at hS; obtain ⟨oki, cc, _, hM, hcell, hoki, hback⟩ := Kd.S_borrow hS ([] : List Int) (i : Int) p1 p2; obtain ⟨vx, hvx, hRx⟩ := hM; subst hvx; replace hcell := hcell 0 vx rfl; rw [Int.toNat_natCast, impl_ParkingsOf.upS_get q hlt] at hRx; obtain ⟨hxq, hxl⟩ := HQL.out _ (List.getElem_mem hlt); have hset := impl_ParkingsOf.upS_set q hlt; rw [Int.toNat_natCast] at hback; generalize L[i] = x at hRx hxq hxl hset; (have hxq2 : q < x.length := by omega); obtain ⟨gr, cr, er, _⟩ := Kd.R_form hRx (by omega); subst er; rw [Int.toNat_natCast, show i * (Kd.slice 3 (Kd.int .i64)).sz + 0 = i from Nat.mul_one i, add_plain] at hcell; (have q1 : (0 : Int) ≤ (q : Int) := by omega); obtain ⟨hmv, hmf⟩ := Kd.R_celln 0 hRx (q : Int) q1 hxq; have hput := Kd.R_putg hRx (q : Int) (-1); rw [Int.toNat_natCast] at hmv hmf hput; have hokr : oki gr := hRx.1 gr rfl; have HBK := Aside0.mk (hback (w1 := wr.setCell ⟨gr, q, none⟩ (.int .i64 (-1))) (x' := x.set q (-1)) hput.2 (fun k_ e => by injection e with e; rw [← e]; exact hokr) ⟨_, rfl, by have h_ := hput.1; exact h_⟩); have HGR := Aside0.mk (Kd.R_base hRx gr rfl); have HSET := Aside0.mk hset; have HLT := Aside0.mk hlt; clear hback hput hRx hS hoki hokr hset hlt; go_wp2; go_roundw
   case rel =>
    refine ⟨i + 1, by go_num, ⟨HLT.out⟩, ⟨below_set HBr.out HGR.out⟩, ⟨?_⟩⟩; rw [← HSET.out]; exact HBK.out
   case measure =>
    have := HLT.out; (simp [intOf]); omega
def laws_szEdgeS.f (l0 : List (S101)) (a1 : Int) : Option (Int) := if (wrap64 (a1 - (l0.length : Int))) < 0 then (some (-1)) else (some (wrap64 (a1 - (l0.length : Int))))
set_option maxHeartbeats 8000000 in
set_option maxRecDepth 100000 in
theorem laws_szEdgeS.calls (A0 : Option Addr) (c0 : Nat) (l0 : List (S101)) (a1 : Int) (r : Int) (w : World) (hr0 : Kd.C k101 w A0 l0.length l0) (hc0 : l0.length ≤ c0) (h : laws_szEdgeS.f l0 a1 = some r) :
  Calls Try.prog 54 #[.slice A0 l0.length c0, .int .i64 a1] w fun e w' => e = .returned (.int .i64 r) ∧ Drawn0 w w' := by
 have HR0 := Aside0.mk hr0; have HC0 := Aside0.mk hc0; clear hr0 hc0; have H : (if (wrap64 (a1 - (l0.length : Int))) < 0 then (some (-1)) else (some (wrap64 (a1 - (l0.length : Int))))) = some r := h; clear h; by_cases c3 : (wrap64 (a1 - (l0.length : Int))) < 0
 ·rw [if_pos c3] at H; have c3b0 := decide_eq_true c3; clear c3; obtain rfl := Option.some.inj H; go_enter Try.func54, Try.ntmps54; go_wp2; go_ret; exact ⟨zz5, by repeat (first | exact Drawn0.refl _ | apply Drawn0.step)⟩
 rw [if_neg c3] at H; have c3b0 := decide_eq_false c3; clear c3; obtain rfl := Option.some.inj H; go_enter Try.func54, Try.ntmps54; go_wp2; go_ret; exact ⟨zz5, by repeat (first | exact Drawn0.refl _ | apply Drawn0.step)⟩
def laws_szGraph.f (a0_0 : Int) (l0_1 : List (S101)) (a1 : Int) : Option (Int) := (laws_szEdgeS.f l0_1 a1).bind fun t102 => (if t102 < 0 then (some (-1)) else (some t102))
set_option maxHeartbeats 8000000 in
set_option maxRecDepth 100000 in
theorem laws_szGraph.calls (a0_0 : Int) (A0_1 : Option Addr) (c0_1 : Nat) (l0_1 : List (S101)) (a1 : Int) (r : Int) (w : World) (hr0_1 : Kd.C k101 w A0_1 l0_1.length l0_1) (hc0_1 : l0_1.length ≤ c0_1) (h : laws_szGraph.f a0_0 l0_1 a1 = some r) :
  Calls Try.prog 16 #[.agg #[.int .i64 a0_0, .slice A0_1 l0_1.length c0_1], .int .i64 a1] w fun e w' => e = .returned (.int .i64 r) ∧ Below w.heap.size w w' := by
 have hu41 := Try.underlying41; have HR0_1 := Aside0.mk hr0_1; have HC0_1 := Aside0.mk hc0_1; clear hr0_1 hc0_1; have HB := Aside0.mk (Below.refl w.heap.size w); have H : ((laws_szEdgeS.f l0_1 a1).bind fun t102 => (if t102 < 0 then (some (-1)) else (some t102))) = some r := h; clear h; replace H := Option.bind_eq_some_iff.mp H; obtain ⟨t102, A30, H⟩ := H; (try dsimp only at H); have A3 := Aside0.mk A30; clear A30; by_cases c4 : t102 < 0
 ·rw [if_pos c4] at H; have c4b0 := decide_eq_true c4; clear c4; obtain rfl := Option.some.inj H; go_enter Try.func16, Try.ntmps16; (go_wp2_with (first | ((with_reducible refine gate_dst (N := 2) rfl ?_); refine box_event ?hg (N := 2) ?hd (cs := #[.int .i64 a0_0, .slice A0_1 l0_1.length c0_1]) (t := 41) ?hr ?_; (case hd => rfl); (case hg => rfl); (case hr => exact zz9); intro gb101 hg w5 hbox hb; have n_ := zA4 (below_step zz1 hb) hbox (zz10 : w.heap.size ≤ gb101) (zz10 : w.heap.size ≤ gb101); clear HB; obtain ⟨HB, BK101, GW101, GE101⟩ := n_; clear hb hbox hg; have hcz6_0 := zC20 BK101; have hcz6_1 := zC21 BK101; have hfz6_0 := blk_frozen BK101.out 0; have hfz6_1 := blk_frozen BK101.out 1) | ((with_reducible refine gate_callee (f := 54) rfl ?_); refine goesL_ (some 8) rfl rfl Try.func54 (by kernel_rfl) rfl #[.slice A0_1 l0_1.length c0_1, .int .i64 a1] rfl zz4 ?_; (with_reducible refine (laws_szEdgeS.calls _ _ l0_1 a1 t102 _ ?side1 ?side2 A3.out).mono ?_); (case side1 => exact zz6); (case side2 => exact HC0_1.out); rintro e w' ⟨rfl, ⟨nd, rfl⟩⟩; refine ⟨_, rfl, ?_⟩))); go_ret; exact ⟨zz7, zz0⟩
 rw [if_neg c4] at H; have c4b0 := decide_eq_false c4; clear c4; obtain rfl := Option.some.inj H; go_enter Try.func16, Try.ntmps16; (go_wp2_with (first | ((with_reducible refine gate_dst (N := 2) rfl ?_); refine box_event ?hg (N := 2) ?hd (cs := #[.int .i64 a0_0, .slice A0_1 l0_1.length c0_1]) (t := 41) ?hr ?_; (case hd => rfl); (case hg => rfl); (case hr => exact zz9); intro gb101 hg w7 hbox hb; have n_ := zA4 (below_step zz1 hb) hbox (zz10 : w.heap.size ≤ gb101) (zz10 : w.heap.size ≤ gb101); clear HB; obtain ⟨HB, BK101, GW101, GE101⟩ := n_; clear hb hbox hg; have hcz8_0 := zC20 BK101; have hcz8_1 := zC21 BK101; have hfz8_0 := blk_frozen BK101.out 0; have hfz8_1 := blk_frozen BK101.out 1) | ((with_reducible refine gate_callee (f := 54) rfl ?_); refine goesL_ (some 8) rfl rfl Try.func54 (by kernel_rfl) rfl #[.slice A0_1 l0_1.length c0_1, .int .i64 a1] rfl zz4 ?_; (with_reducible refine (laws_szEdgeS.calls _ _ l0_1 a1 t102 _ ?side1 ?side2 A3.out).mono ?_); (case side1 => exact zz6); (case side2 => exact HC0_1.out); rintro e w' ⟨rfl, ⟨nd, rfl⟩⟩; refine ⟨_, rfl, ?_⟩))); go_ret; exact ⟨zz7, zz0⟩
mutual
def spec_MatrixOk.l0 : Nat → List (List Int) → List (List Int) → Int → Int → Option (Bool)
 | 0, _, _, _, _ => none
 | k + 1, x0, x10, x11, x12 => if x12 < x11 then (if 0 ≤ x12 then (if x12 < (x10.length : Int) then (if ((rd_L3 x10 x12).length : Int) = (x0.length : Int) then (spec_MatrixOk.l1 k x0 x10 x11 x12 (rd_L3 x10 x12) ((rd_L3 x10 x12).length : Int) 0) else (some false)) else (none)) else (none)) else (some true)
def spec_MatrixOk.l1 : Nat → List (List Int) → List (List Int) → Int → Int → List Int → Int → Int → Option (Bool)
 | 0, _, _, _, _, _, _, _ => none
 | k + 1, x0, x10, x11, x12, x21, x22, x23 => if x23 < x22 then (if 0 ≤ x23 then (if x23 < (x21.length : Int) then ((spec_l01In.f (rd x21 x23) (-500) 500).bind fun t103 => (if t103 = true then (spec_MatrixOk.l1 k x0 x10 x11 x12 x21 x22 (wrap64 (x23 + 1))) else (some false))) else (none)) else (none)) else (spec_MatrixOk.l0 k x0 x10 x11 (wrap64 (x12 + 1)))
end
def spec_MatrixOk.f (k : Nat) (l0 : List (List Int)) : Option (Bool) := if (l0.length : Int) > 6 then (some false) else (spec_MatrixOk.l0 k l0 l0 (l0.length : Int) 0)
theorem spec_MatrixOk.mono_l : ∀ k, (∀ y0 y1 y2 y3, LeO (spec_MatrixOk.l0 k y0 y1 y2 y3) (spec_MatrixOk.l0 (k + 1) y0 y1 y2 y3)) ∧ (∀ y0 y1 y2 y3 y4 y5 y6, LeO (spec_MatrixOk.l1 k y0 y1 y2 y3 y4 y5 y6) (spec_MatrixOk.l1 (k + 1) y0 y1 y2 y3 y4 y5 y6))
 | 0 => ⟨fun _ _ _ _ r h => by simp [spec_MatrixOk.l0] at h, fun _ _ _ _ _ _ _ r h => by simp [spec_MatrixOk.l1] at h⟩
 | k + 1 => by
  obtain ⟨ih0, ih1⟩ := spec_MatrixOk.mono_l k
  refine ⟨?_, ?_⟩
  ·intro y0 y1 y2 y3
   unfold spec_MatrixOk.l0
   exact zm1
  ·intro y0 y1 y2 y3 y4 y5 y6
   unfold spec_MatrixOk.l1
   exact zm1
theorem spec_MatrixOk.mono : ∀ a0 k, LeO (spec_MatrixOk.f k a0) (spec_MatrixOk.f (k + 1) a0) := by
 intro a0 k; obtain ⟨ih0, ih1⟩ := spec_MatrixOk.mono_l k; unfold spec_MatrixOk.f; exact zm1
set_option maxHeartbeats 8000000 in
set_option maxRecDepth 100000 in
theorem spec_MatrixOk.calls (k : Nat) (A0 : Option Addr) (c0 : Nat) (l0 : List (List Int)) (r : Bool) (w : World) (hr0 : Kd.C (Kd.slice 3 (Kd.int .i64)) w A0 l0.length l0) (hc0 : l0.length ≤ c0) (h : spec_MatrixOk.f k l0 = some r) :
  Calls Try.prog 134 #[.slice A0 l0.length c0] w fun e w' => e = .returned (.bool r) ∧ Drawn0 w w' := by
 have HR0 := Aside0.mk hr0; have HC0 := Aside0.mk hc0; clear hr0 hc0; have H : (if (l0.length : Int) > 6 then (some false) else (spec_MatrixOk.l0 k l0 l0 (l0.length : Int) 0)) = some r := h; clear h; by_cases c2 : (l0.length : Int) > 6
 ·rw [if_pos c2] at H; have c2b0 : decide (6 < (l0.length : Int)) = true := decide_eq_true c2; have c2b1 : decide (6 < l0.length) = true := decide_eq_true (by omega); clear c2; obtain rfl := Option.some.inj H; go_enter Try.func134, Try.ntmps134; go_wp2; go_ret; exact ⟨zz5, by repeat (first | exact Drawn0.refl _ | apply Drawn0.step)⟩
 rw [if_neg c2] at H; have c2b0 : decide (6 < (l0.length : Int)) = false := decide_eq_false c2; have c2b1 : decide (6 < l0.length) = false := decide_eq_false (by omega); clear c2; have H' := Aside0.mk H; clear H; go_enter Try.func134, Try.ntmps134; go_wp2; (go_loopg [12] k (fun kq v12 w' => ∃ (x12_1 : Int), v12 = .int .i64 x12_1 ∧ Aside0 (spec_MatrixOk.l0 kq l0 l0 (l0.length : Int) x12_1 = some r) ∧ Aside0 (kq ≤ k) ∧ Drawn0 w w')); case atStart => exact ⟨(0), zz5, H', ⟨Nat.le_refl _⟩, by repeat (first | exact Drawn0.refl _ | apply Drawn0.step)⟩
 case round =>
  clear H'; (try clear c1); (try clear c2); (try clear c2b0); (try clear c2b1); (try clear p2); obtain ⟨x12_1, rfl, HA, HK1, ⟨m1, rfl⟩⟩ := hrel
  cases gk with
  | zero => exact absurd HA.out (by simp [spec_MatrixOk.l0])
  | succ k1 =>
   have H := HA.out; clear HA; simp only [spec_MatrixOk.l0] at H; by_cases c3 : x12_1 < (l0.length : Int); rotate_left
   ·rw [if_neg c3] at H; have c3b0 := decide_eq_false c3; (try (have c3b8101_0 := c3b0; first | rw [hl101_0] at c3b8101_0 | rw [← hl101_0] at c3b8101_0)); clear c3; obtain rfl := Option.some.inj H; go_wp2; go_ret; exact ⟨zz5, by repeat (first | exact Drawn0.refl _ | apply Drawn0.step)⟩
   rw [if_pos c3] at H; have c3b0 := decide_eq_true c3; clear c3; by_cases c4 : 0 ≤ x12_1; rotate_left
   ·rw [if_neg c4] at H; exact absurd H (by simp)
   rw [if_pos c4] at H; have c4b0 := decide_eq_true c4; clear c4; by_cases c5 : x12_1 < (l0.length : Int); rotate_left
   ·rw [if_neg c5] at H; exact absurd H (by simp)
   rw [if_pos c5] at H; have c5b0 := decide_eq_true c5; clear c5; by_cases c6 : ((rd_L3 l0 x12_1).length : Int) = (l0.length : Int); rotate_left
   ·rw [if_neg c6] at H; have c6b0 : (((rd_L3 l0 x12_1).length : Int) == (l0.length : Int)) = false := beq_eq_false_iff_ne.mpr c6; have c6b1 : (((rd_L3 l0 x12_1).length : Int) != (l0.length : Int)) = true := bne_iff_ne.mpr c6; (have c6b2 : ((rd_L3 l0 x12_1).length == l0.length) = false := by first | simpa using c6 | (simp at c6 ⊢; omega)); obtain rfl := Option.some.inj H; have p101 : 0 ≤ (x12_1 : Int) := of_decide_eq_true zz3; have q101 : x12_1 < (l0.length : Int) := of_decide_eq_true zz3; obtain ⟨ad101, A101_0, c101_0, e101, hx101_0, hl101_0, hi101_0⟩ := at_L3 HR0.out x12_1 p101 q101; cases e101; have HR101_0 := Aside0.mk hi101_0; have HC101_0 := Aside0.mk hl101_0; clear hi101_0 hl101_0; replace p101 := eq_true p101; replace q101 := eq_true q101; go_wp2; go_ret; exact ⟨zz5, by repeat (first | exact Drawn0.refl _ | apply Drawn0.step)⟩
   rw [if_pos c6] at H; have c6b0 : (((rd_L3 l0 x12_1).length : Int) == (l0.length : Int)) = true := beq_iff_eq.mpr c6; have c6b1 : (((rd_L3 l0 x12_1).length : Int) != (l0.length : Int)) = false := bne_eq_false_iff_eq.mpr c6; (have c6b2 : ((rd_L3 l0 x12_1).length == l0.length) = true := by first | simpa using c6 | (simp at c6 ⊢; omega)); clear c6; have H' := Aside0.mk H; clear H; have p101 : 0 ≤ (x12_1 : Int) := of_decide_eq_true zz3; have q101 : x12_1 < (l0.length : Int) := of_decide_eq_true zz3; obtain ⟨ad101, A101_0, c101_0, e101, hx101_0, hl101_0, hi101_0⟩ := at_L3 HR0.out x12_1 p101 q101; cases e101; have HR101_0 := Aside0.mk hi101_0; have HC101_0 := Aside0.mk hl101_0; clear hi101_0 hl101_0; replace p101 := eq_true p101; replace q101 := eq_true q101; go_wp2; (go_loopg [23] k1 (fun kq v23 w' => ∃ (x23_2 : Int), v23 = .int .i64 x23_2 ∧ Aside0 (spec_MatrixOk.l1 kq l0 l0 (l0.length : Int) x12_1 (rd_L3 l0 x12_1) ((rd_L3 l0 x12_1).length : Int) x23_2 = some r) ∧ Aside0 (kq ≤ k1) ∧ Drawn0 w w')); case atStart => exact ⟨(0), zz5, H', ⟨Nat.le_refl _⟩, by repeat (first | exact Drawn0.refl _ | apply Drawn0.step)⟩
   case round =>
    clear H'; (try clear c1); (try clear p1); (try clear q1); (try clear hx1); (try clear c2); (try clear c2b0); (try clear c2b1); (try clear p2); (try clear c3); (try clear c3b0); (try clear c4); (try clear c4b0); (try clear c5); (try clear c5b0); (try clear c6); (try clear c6b0); (try clear c6b1); (try clear c6b2); (try clear hx101_0); (try clear p101); (try clear p2); (try clear q101); obtain ⟨x23_2, rfl, HA, HK2, ⟨m2, rfl⟩⟩ := hrel
    cases gk with
    | zero => exact absurd HA.out (by simp [spec_MatrixOk.l1])
    | succ k2 =>
     have H := HA.out; clear HA; simp only [spec_MatrixOk.l1] at H; by_cases c7 : x23_2 < ((rd_L3 l0 x12_1).length : Int); rotate_left
     ·rw [if_neg c7] at H; have c7b0 := decide_eq_false c7; (try (have c7b8101_0 := c7b0; first | rw [hl101_0] at c7b8101_0 | rw [← hl101_0] at c7b8101_0)); clear c7; have H' := Aside0.mk H; clear H; go_wp2; go_roundg k2; (case measure => have := HK1.out; have := HK2.out; omega); case rel => exact ⟨(wrap64 (x12_1 + 1)), zz5, H', ⟨zz50⟩, by repeat (first | exact Drawn0.refl _ | apply Drawn0.step)⟩
     rw [if_pos c7] at H; have c7b0 := decide_eq_true c7; (try (have c7b8101_0 := c7b0; first | rw [hl101_0] at c7b8101_0 | rw [← hl101_0] at c7b8101_0)); clear c7; by_cases c8 : 0 ≤ x23_2; rotate_left
     ·rw [if_neg c8] at H; exact absurd H (by simp)
     rw [if_pos c8] at H; have c8b0 := decide_eq_true c8; clear c8; by_cases c9 : x23_2 < ((rd_L3 l0 x12_1).length : Int); rotate_left
     ·rw [if_neg c9] at H; exact absurd H (by simp)
     rw [if_pos c9] at H; have c9b0 := decide_eq_true c9; (try (have c9b8101_0 := c9b0; first | rw [hl101_0] at c9b8101_0 | rw [← hl101_0] at c9b8101_0)); clear c9; replace H := Option.bind_eq_some_iff.mp H; obtain ⟨t103, A100, H⟩ := H; (try dsimp only at H); have A10 := Aside0.mk A100; clear A100; by_cases c11 : t103 = true; rotate_left
     ·replace c11 := Bool.eq_false_iff.mpr c11; subst c11; rw [if_neg (show ¬ (false = true) by decide)] at H; obtain rfl := Option.some.inj H; have p102 : 0 ≤ (x23_2 : Int) := of_decide_eq_true zz3; have q102 : x23_2 < ((rd_L3 l0 x12_1).length : Int) := of_decide_eq_true zz3; obtain ⟨ad102, e102, hx102_0⟩ := Kd.at_int HR101_0.out x23_2 p102 q102; cases e102; replace p102 := eq_true p102; replace q102 := eq_true q102; (go_wp2_with (first | ((with_reducible refine gate_callee (f := 56) rfl ?_); refine goesL_ (some 28) rfl rfl Try.func56 (by kernel_rfl) rfl #[.int .i64 (rd (rd_L3 l0 x12_1) x23_2), .int .i64 (-500), .int .i64 500] rfl zz4 ?_; (with_reducible refine (spec_l01In.calls (rd (rd_L3 l0 x12_1) x23_2) (-500) 500 false _ A10.out).mono ?_); rintro e w' ⟨rfl, ⟨nd, rfl⟩⟩; refine ⟨_, rfl, ?_⟩))); go_ret; exact ⟨zz5, by repeat (first | exact Drawn0.refl _ | apply Drawn0.step)⟩
     subst c11; rw [if_pos rfl] at H; have H' := Aside0.mk H; clear H; have p102 : 0 ≤ (x23_2 : Int) := of_decide_eq_true zz3; have q102 : x23_2 < ((rd_L3 l0 x12_1).length : Int) := of_decide_eq_true zz3; obtain ⟨ad102, e102, hx102_0⟩ := Kd.at_int HR101_0.out x23_2 p102 q102; cases e102; replace p102 := eq_true p102; replace q102 := eq_true q102; (go_wp2_with (first | ((with_reducible refine gate_callee (f := 56) rfl ?_); refine goesL_ (some 28) rfl rfl Try.func56 (by kernel_rfl) rfl #[.int .i64 (rd (rd_L3 l0 x12_1) x23_2), .int .i64 (-500), .int .i64 500] rfl zz4 ?_; (with_reducible refine (spec_l01In.calls (rd (rd_L3 l0 x12_1) x23_2) (-500) 500 true _ A10.out).mono ?_); rintro e w' ⟨rfl, ⟨nd, rfl⟩⟩; refine ⟨_, rfl, ?_⟩))); go_roundg k2; (case measure => have := HK1.out; have := HK2.out; omega); case rel => exact ⟨(wrap64 (x23_2 + 1)), zz5, H', ⟨zz50⟩, by repeat (first | exact Drawn0.refl _ | apply Drawn0.step)⟩
end Go.Proofs.Ytnbljcgdgblgoaa.P
end

