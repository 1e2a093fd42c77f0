/- A part of the proof of FnExactLevelCounts. -/
import Derived.Test.YtnbljcgdgblgoaaBFnExactLevelCounts2
import Derived.Test.YtnbljcgdgblgoaaBFnExactLevelCounts0
import Derived.Test.YtnbljcgdgblgoaaBFnExactLevelCounts1
import Derived.Deep.LoopGhost
import Derived.Lib.SliceRun
import Derived.Shelf.SlSortCmp.NoneTotal
set_option maxHeartbeats 16000000
set_option maxRecDepth 1000000
section
namespace Go.Proofs.Ytnbljcgdgblgoaa.P
open Go.RowKit Go.Proofs.YtnbljcgdgblgoaaW.PrintWords Go.Proofs.YtnbljcgdgblgoaaW.PrintLast Go.Proofs.YtnbljcgdgblgoaaW.PrintMore
attribute [local go_sem] max2_int min2_int max_two min_two max_three min_three max_four min_four
set_option linter.unusedVariables false
set_option linter.unusedSimpArgs false
def slices_Delete_int_int.f (l0 : List (Int)) (a1 a2 : Int) : Option (List (Int)) := if 0 ≤ a1 then (if a1 < (l0.length : Int) then (if a2 = a1 + 1 then some (l0.eraseIdx a1.toNat) else none) else none) else none
theorem slices_Delete_int_int.clear_ {P : Program} (W : World) {g o c : Nat} {t e ty : TypeId} {cur : Array Value} (ht : P.underlying t = some (.slice e)) (hv : ∀ w, (zeroValue e).run P w = .ok (.int .i64 0) w) (hb : W.heap[g]? = some (.cells cur e (0, 0))) (hl : o + 1 ≤ cur.size) :
  (Builtin.clear_ #[t] ty #[.slice (some ⟨g, o, none⟩) 1 c]).run P W = .ok (.tuple #[]) (W.setCells g o [.int .i64 0]) := by
 have hst := run_storeCells_cells (P := P) g o [.int .i64 0] 0 W (fun j hj => by
  rw [blk_cell hb]; (simp at hj ⊢); omega) (fun j hj => blk_frozen hb _) (by intro v hv'; simp at hv'; rw [hv']; rfl)
 simp only [Nat.add_zero] at hst; (have hz : (Builtin.zeroCells (.int .i64 0 : Value).cells 1).toList = [.int .i64 0] := by simp [Builtin.zeroCells, Value.cells, List.range_succ]); simp [Builtin.clear_, run_underlying ht, hv, hz, hst]
theorem slices_Delete_int_int.calls (P0_ : Nat → Prop) (u9000_ : Value) (l0 : List (Int)) (a1 a2 : Int) (r : List (Int)) (w0 w : World) (hB : Below w0.heap.size w0 w) (ho0 : Kd.R (Kd.int .i64) 3 w w0.heap.size P0_ u9000_ l0) (h : slices_Delete_int_int.f l0 a1 a2 = some r) :
  Calls Try.prog 147 #[u9000_, .int .i64 a1, .int .i64 a2] w fun e w' => ∃ v0_ : Value, e = .returned (v0_) ∧ Kd.R (Kd.int .i64) 3 w' w0.heap.size (fun k_ => (P0_ k_ ∨ w.heap.size ≤ k_)) v0_ r ∧ Below w0.heap.size w0 w' ∧ Kept w w' (fun k_ => P0_ k_) := by
 unfold slices_Delete_int_int.f at h; split at h
 ·split at h
  ·split at h
   ·rename_i h0 h1 h2; subst h2; obtain rfl := Option.some.inj h; obtain ⟨i, rfl⟩ := Int.eq_ofNat_of_zero_le h0; (have hi : i < l0.length := by omega); clear h h0 h1; obtain ⟨hk0, inner, ho, hr⟩ := ho0; have hil : inner.length = l0.length * 1 := ho.1; rcases ho.2 with ⟨hv, hn⟩ | ⟨g, cap, cur, rfl, hbg, hh, hnc, hcm, hcs, htk⟩
    ·omega
    ·obtain ⟨i0, hi0, hz0, hz1, hz2⟩ := info_parts info3; (have hcells : ∀ j u, inner[j]? = some u → w.cell? ⟨g, j, none⟩ = some u := fun j u hu => by have := ho.cells (g := g) rfl j u hu; rwa [add_plain] at this); have hb0 : w0.heap.size ≤ w.heap.size := hB.size; change cur.size = cap * 1 at hcs; change List.take (l0.length * 1) cur.toList = inner at htk; have hk0g : P0_ g := hk0 g rfl; have hoi : w.drew.ownsRow w0.heap.size 3 1 (.slice (some ⟨g, 0, none⟩) i cap) i (inner.take (i * 1)) := ⟨by rw [List.length_take]; omega, .inr ⟨g, cap, cur, rfl, hbg, hh, by omega, hcm, hcs, by rw [← htk, List.take_take, Nat.min_eq_left (by omega)]⟩⟩; obtain ⟨d, hd⟩ : ∃ d, l0.length = i + 1 + d := ⟨l0.length - (i + 1), by omega⟩; rw [hd] at hil hnc htk ⊢; obtain ⟨news, hnews⟩ : ∃ news, news = inner.drop ((i + 1) * 1) := ⟨_, rfl⟩; have hnl : news.length = d * 1 := by rw [hnews, List.length_drop, hil]; omega
     have hn1 : ∀ u ∈ news, u.oneCell' = true := fun u hu => by
      rw [hnews] at hu; exact (Kd.reps_one hr (by decide) (fun p c hp => Kd.K_one (Kd.int .i64) (Kd.K_of_M (Kd.int .i64) hp))) u (List.mem_of_mem_drop hu)
     obtain ⟨A, hA, hsrc⟩ : ∃ A : Addr, (if cap = i + 1 then some (⟨g, 0, none⟩ : Addr) else some ⟨g, i + 1, none⟩) = some A ∧ Hid (∀ t u, news[t]? = some u → w.drew.cell? (A.add t) = some u) := by
      by_cases hq : cap = i + 1
      ·refine ⟨⟨g, 0, none⟩, by simp [hq], fun t u hu => ?_⟩; (have h0 : news.length = 0 := by omega); rw [List.length_eq_zero_iff.1 h0] at hu; simp at hu
      refine ⟨⟨g, i + 1, none⟩, by simp [hq], fun t u hu => ?_⟩; rw [hnews, List.getElem?_drop] at hu; rw [Addr.add_lit]; exact hcells _ _ (by simpa using hu)
     have HD := zK_ hd; clear hi; have HO := zK_ hoi; have HNL := zK_ hnl; have HN1 := zK_ hn1; have HR := zK_ hr; have HNW := zK_ hnews; have HIL := zK_ hil; have HBW := zK_ hB; have HC := zK_ hcs; have HG := zK_ (⟨hbg, hk0g, hcm⟩ : w0.heap.size ≤ g ∧ P0_ g ∧ cap ≤ maxLen); (have hic : i ≤ cap := by omega); (have hjc : i + 1 ≤ cap := by omega); (have hcz : cap ≤ 9223372036854775807 := by have := hcm; unfold maxLen at this; omega); clear hnl hn1 hr hnews hil hB hcs hbg hk0g hcm hh htk ho hcells hk0 hoi hd
     have clr_ : ∀ {W1 : World}, W1.ownsRow w0.heap.size 3 1 (.slice (some ⟨g, 0, none⟩) (i + d) cap) (i + d) (inner.take (i * 1) ++ news) → ∀ ty, (Builtin.clear_ #[26] ty #[.slice (some ⟨g, i + d, none⟩) (i + 1 + d - (i + d)) (cap - (i + d))]).run Try.prog W1 = .ok (.tuple #[]) (W1.setCells g (i + d) [.int .i64 0]) := fun {W1} hO ty => by
      rcases hO.2 with ⟨hv, _⟩ | ⟨g', cap', cur', hv, _, hh', _, _, hs', _⟩
      ·cases hv
      ·injection hv with ha _ hc'; injection ha with ha; injection ha with ha; subst ha; subst hc'; rw [show i + 1 + d - (i + d) = 1 by omega]; exact slices_Delete_int_int.clear_ W1 Try.underlying26 Try.zeroValue3 hh' (by rw [hs']; omega)
     (have hbi0 : (0 : Int) ≤ (i : Int) + 1 := by omega); (have hbi1 : (i : Int) + 1 ≤ (i : Int) + 1 + (d : Int) := by omega); go_enter Try.func147, Try.ntmps147; (go_wp2_with fail); (go_region_law (refine Cf.step_append_own rfl (.tmp 22) (.tmp 25) 26 rfl w0.heap.size 3 i0 1 Try.underlying26 hi0 hz1 g i cap (inner.take (i * 1)) (by simp [Act.eval, Act.put]) HO.out A d (cap - (i + 1)) news (by simp [Act.eval, Act.put]) HNL.out hsrc.out HN1.out (by omega) ?_; intro W1 hO1 hG1; have HO1 := zK_ hO1; have HG1 := zK_ hG1; have hcl := clr_ hO1; obtain ⟨W2, hW2⟩ : ∃ W2, W2 = W1.setCells g (i + d) [.int .i64 0] := ⟨_, rfl⟩; rw [← hW2] at hcl; have HW2 := zK_ hW2; clear hO1 hG1 hW2)); go_wp2; refine bodyPost_ret (v := .slice (some ⟨g, 0, none⟩) (i + d) cap) (by simp [results, Try.results147, go_sem]) rfl ?_; have hO2 := Cf.own_tail [.int .i64 0] (i + d) W1 HO1.out (by omega) (by have := HC.out; simp; omega); rw [← HW2.out] at hO2; have hgr : w.grownBy W2 (some g) := ⟨hO2.2.os.trans HG1.out.os, hO2.2.tape.trans HG1.out.tape, hO2.2.output.trans HG1.out.output, Nat.le_trans HG1.out.size hO2.2.size, fun k hk hne => (hO2.2.block k (Nat.lt_of_lt_of_le hk HG1.out.size) hne).trans (HG1.out.block k hk hne)⟩; (have hel : l0.eraseIdx ((i : Int)).toNat = l0.take i ++ l0.drop (i + 1) := by rw [Int.toNat_natCast, List.eraseIdx_eq_take_drop_succ]); refine ⟨_, rfl, ⟨fun k hk => ?_, ?_⟩, ⟨hgr.os.trans HBW.out.os, hgr.tape.trans HBW.out.tape, hgr.output.trans HBW.out.output, Nat.le_trans HBW.out.size hgr.size, fun k hk => (hgr.block k (Nat.lt_of_lt_of_le hk HBW.out.size) (by have := HG.out.1; simp; omega)).trans (HBW.out.block k hk)⟩, ⟨hgr.size, fun k hk hn => hgr.block k hk (fun e => hn (by injection e with e; rw [e]; exact HG.out.2.1))⟩⟩
     ·(simp [Value.ownBlock] at hk); subst hk; exact .inl HG.out.2.1
     ·(have hlen : (l0.eraseIdx ((i : Int)).toNat).length = i + d := by rw [hel, List.length_append, List.length_take, List.length_drop, HD.out]; omega); refine ⟨inner.take (i * 1) ++ news, by rw [hlen]; exact hO2.1, ?_⟩; rw [hel, HNW.out]; have ht := Kd.reps_take (m := i) HR.out (by rw [HD.out]; omega); have hd2 := Kd.reps_drop (m := i + 1) HR.out; (refine (Kd.reps_append ht hd2).imp_ fun p c hp => ?_); refine Kd.M_mono (Kd.int .i64) (fun k hk => ?_) (Kd.M_step hp (w1 := W2) fun k hk hlt => hgr.block k hlt (fun e => hk.2 (by rw [e]; rfl))); exact ⟨.inl hk.1, fun e => hk.2 (by rw [e]; rfl)⟩
   ·cases h
  ·cases h
 ·cases h
def impl_ReducedLaplacian.f (k : Nat) (aD : Int) (aC : List S57) (a1 : Int) : Option (List (List Int)) := (impl_isVertex.f aD aC a1).bind fun t => if t = true then (impl_LaplacianOf.f k aD aC).bind fun L => Cf.redF a1 L else some []
theorem impl_ReducedLaplacian.mono : ∀ a0 a1 a2 k, LeO (impl_ReducedLaplacian.f k a0 a1 a2) (impl_ReducedLaplacian.f (k + 1) a0 a1 a2) := by
 intro a0 a1 a2 k; unfold impl_ReducedLaplacian.f; exact LeO.bind (LeO.refl _) fun t => LeO.ite (LeO.bind (impl_LaplacianOf.mono _ _ k) fun _ => LeO.refl _) (LeO.refl _)
theorem impl_ReducedLaplacian.calls (k : Nat) (aD : Int) (aH : Option Addr) (aG : Nat) (aC : List S57) (a1 : Int) (r : List (List Int)) (w : World) (hr0_1 : Kd.C k57 w aH aC.length aC) (hc0_1 : aC.length ≤ aG) (h : impl_ReducedLaplacian.f k aD aC a1 = some r) :
  Calls Try.prog 121 #[.agg #[.int .i64 aD, .slice aH aC.length aG], .int .i64 a1] w fun e w' => ∃ v0_ : Value, e = .returned (v0_) ∧ Kd.S (Kd.slice 3 (Kd.int .i64)) 26 w' w.heap.size (fun _ => True) v0_ r ∧ Below w.heap.size w w' := by
 have hu30 := Try.underlying25; have HR := zK_ hr0_1; have HC := zK_ hc0_1; clear hr0_1 hc0_1; have H : ((impl_isVertex.f aD aC a1).bind fun t => if t = true then (impl_LaplacianOf.f k aD aC).bind fun L => Cf.redF a1 L else some []) = some r := h; clear h; obtain ⟨t, hv, H⟩ := zO_ H; have HV := zK_ hv; clear hv; have HB := zK_ (below_alloc (Below.refl w.heap.size w) (.cells #[.int .i64 aD, .slice aH aC.length aG] 25)); have BK := zK_ (heap_alloc_new w (.cells #[.int .i64 aD, .slice aH aC.length aG] 25))
 cases t with
 | false =>
  obtain rfl := Option.some.inj H; clear H; go_enter Try.func121, Try.ntmps121; (go_wp2_with fail); refine (impl_isVertex.calls _ _ _ aC _ false _ (Kd.C_below HR.out HB.out) HC.out HV.out).mono ?_; rintro e w1 ⟨rfl, hb⟩; have HB1 := zK_ (below_step HB.out hb); clear hb; go_wp2; go_ret; exact ⟨_, rfl, Kd.S_nil _ _ _ _ _, HB1.out⟩
 | true =>
  rw [if_pos rfl] at H; obtain ⟨L, hL, H⟩ := zO_ H; have HL := zK_ hL; clear hL; unfold Cf.redF at H; split at H
  ·rename_i hq; obtain rfl := Option.some.inj H; clear H; obtain ⟨hq0, hq1, hq2, hq3⟩ := hq; obtain ⟨q, rfl⟩ := Int.eq_ofNat_of_zero_le hq0; rw [Int.toNat_natCast]; have HQ := zK_ (show q ≤ 1000000 ∧ L.length ≤ 1000000 ∧ ∀ r ∈ L, q < r.length from ⟨by omega, hq2, fun r hr => by have := hq3 r hr; omega⟩); clear hq0 hq1 hq2 hq3; go_enter Try.func121, Try.ntmps121; (go_wp2_with fail); refine (impl_isVertex.calls _ _ _ aC _ true _ (Kd.C_below HR.out HB.out) HC.out HV.out).mono ?_; rintro e w1 ⟨rfl, hb⟩; have HB1 := zK_ (below_step HB.out hb); have pE := zK_ (blk_below BK.out hb); clear hb; have hz0 : w1.cell? ⟨w.heap.size, 0, none⟩ = some (.int .i64 aD) := (blk_cell pE.out 0).trans rfl; have hz1 : w1.cell? ⟨w.heap.size, 1, none⟩ = some (.slice aH aC.length aG) := (blk_cell pE.out 1).trans rfl; (go_wp2_with fail); refine (impl_LaplacianOf.calls k _ _ _ aC L _ (Kd.C_below HR.out HB1.out) HC.out HL.out).mono ?_; rintro e w2 ⟨vL, rfl, hS, hb⟩; have HB2 := zK_ (below_step HB1.out hb); obtain ⟨okj, rs, hO, _, hok⟩ := Cf.rows_open (Kd.S_bound hS); obtain ⟨AL, cL, eL, hcL, _⟩ := Kd.S_reads hS; have HO := zK_ hO; have HSZ := zK_ (show ∀ j k, okj j k → k < w2.heap.size from fun j k h => (hok j k h).2.2.1); have HW1 := zK_ (below_size HB1.out); have HRow := zK_ (show ∀ j x u, L[j]? = some x → rs[j]? = some u → Kd.R (Kd.int .i64) 3 w2 w.heap.size (okj j) u x from fun j x u hx hu => Kd.R_lower (hO.row j x u hx hu) (below_size HB1.out)); have HOL := zK_ (show ∀ k, vL.ownBlock = some k → k < w2.heap.size from Kd.S_lt hS); subst eL; have hLl : L.length ≤ cL := hcL; clear hS hb hO hok hcL hz0 hz1; go_wp2; (go_loopw [5, 15] (fun v5 v15 wr => ∃ i : Nat, v15 = .int .i64 (i : Int) ∧ Aside0 (i ≤ L.length ∧ w2.heap.size ≤ wr.heap.size) ∧ Aside0 (Below w.heap.size w wr) ∧ Aside0 (∀ k, ((Value.slice AL L.length cL).ownBlock = some k ∨ ∃ j, i ≤ j ∧ okj j k) → wr.heap[k]? = w2.heap[k]?) ∧ Aside0 (Kd.S (Kd.slice 3 (Kd.int .i64)) 26 wr w.heap.size (fun k => (∃ j, j < i ∧ okj j k) ∨ w2.heap.size ≤ k) v5 (Cf.keepF q L i))) (fun _ v _ => L.length - (intOf v).toNat)); case atStart => exact ⟨0, rfl, ⟨Nat.zero_le _, Nat.le_refl _⟩, HB2, ⟨fun _ _ => rfl⟩, ⟨Kd.S_nil _ _ _ _ _⟩⟩
   case round =>
    obtain ⟨i, rfl, HI, HBr, HM, HS⟩ := hrel; by_cases hlt : i < L.length; rotate_left
    ·have c0 : decide ((i : Int) < (L.length : Int)) = false := decide_eq_false (by omega); (have hi : i = L.length := by have := HI.out; omega); subst hi; clear hlt; go_wp2; go_ret; exact ⟨_, rfl, Kd.S_mono HS.out (fun _ _ => trivial), HBr.out⟩
    have c0 : decide ((i : Int) < (L.length : Int)) = true := decide_eq_true (by omega); (have hil : i < rs.length := by rw [HO.out.len]; exact hlt); obtain ⟨x, hxi⟩ : ∃ x, L[i]? = some x := ⟨_, List.getElem?_eq_getElem hlt⟩; obtain ⟨u, hui⟩ : ∃ u, rs[i]? = some u := ⟨_, List.getElem?_eq_getElem hil⟩; have hR2 := HRow.out i _ _ hxi hui; have hown := HO.out.own; obtain ⟨gL, cap, hgL, hgb, hgc⟩ := hown.form (by omega); injection hgL with hA hn hc; subst hA; (have hcell2 : w2.cell? ⟨gL, i, none⟩ = some u := by have := hown.cells (g := gL) rfl i _ hui; rwa [add_plain] at this); have hsame : wr.heap[gL]? = w2.heap[gL]? := HM.out gL (.inl rfl); have hcell : wr.cell? ⟨gL, i, none⟩ = some u := (World.cell?_of_block (a := ⟨gL, i, none⟩) hsame).trans hcell2; (have hRr := Kd.R_move hR2 (w1 := wr) fun k hk => HM.out k (.inr ⟨i, Nat.le_refl _, hk⟩)); obtain ⟨Ai, ci, ei⟩ := Kd.R_slice hRr; rw [ei] at hcell hRr; have HRr := zK_ hRr; (have p1 : (0 : Int) ≤ (i : Int) := by omega); (have p2 : (i : Int) < (L.length : Int) := by omega); (have hib : (i : Int) ≤ 1000000 := by have := HQ.out.2.1; omega); (have hq0 : (0 : Int) ≤ (q : Int) := by omega); (have hqb : (q : Int) ≤ 1000000 := by have := HQ.out.1; omega); have HLT := zK_ hlt; have HXI := zK_ hxi; have HGL := zK_ (HOL.out gL rfl); clear hR2 hown hgb hgc hsame hcell2 hRr hxi hui hlt hil ei hn hc; by_cases hq : i = q
    ·(have c1 : ((i : Int) == (q : Int)) = true := by simp [hq]); (have c2 : ((i : Int) != (q : Int)) = false := by simp [hq]); have HQI := zK_ hq; clear hq; go_wp2; go_roundw
     case rel =>
      refine ⟨i + 1, by go_num, ⟨by have := HLT.out; omega, HI.out.2⟩, HBr, ⟨fun k hk => HM.out k (hk.imp_right fun ⟨j, hj, h⟩ => ⟨j, by omega, h⟩)⟩, ⟨?_⟩⟩; have e : Cf.keepF q L (i + 1) = Cf.keepF q L i := if_pos HQI.out; rw [e]; exact Kd.S_mono HS.out fun k hk => hk.imp_left fun ⟨j, hj, h⟩ => ⟨j, by omega, h⟩
     case measure =>
      have := HLT.out; (simp [intOf]); omega
    (have c1 : ((i : Int) == (q : Int)) = false := by simp; omega); (have c2 : ((i : Int) != (q : Int)) = true := by simp; omega); have HQI := zK_ hq; clear hq; (go_wp2_with fail); refine (slices_Delete_int_int.calls (okj i) _ x (q : Int) _ (x.eraseIdx q) w wr HBr.out HRr.out ?hd).mono ?_
    case hd =>
     have hql : q < x.length := HQ.out.2.2 x (List.mem_of_getElem? HXI.out); unfold slices_Delete_int_int.f; rw [if_pos (by omega), if_pos (by omega), if_pos rfl, Int.toNat_natCast]
    rintro e w3 ⟨vD, rfl, hD, hb3, hk3⟩; obtain ⟨Ad, cd, ed⟩ := Kd.R_slice hD; subst ed; have HD := zK_ hD; have HB3 := zK_ hb3; have HK3 := zK_ hk3; clear hD hb3 hk3; have HSr := zK_ (Kd.S_mono (ok' := fun k => (((∃ j, j < i + 1 ∧ okj j k) ∨ w2.heap.size ≤ k) ∧ ¬ (okj i k ∨ wr.heap.size ≤ k))) (Kd.S_step (Kd.S_bound HS.out) (w1 := w3) fun k hk hlt => HK3.out.2 k hlt fun hi => hk.1.elim (fun ⟨j, hj, h⟩ => by have := HO.out.apart j i k h hi; omega) (fun h => by have := HSZ.out i k hi; omega)) fun k hk => ⟨hk.1.imp_left fun ⟨j, hj, h⟩ => ⟨j, by omega, h⟩, fun h => h.elim (fun hi => hk.1.elim (fun ⟨j, hj, h⟩ => by have := HO.out.apart j i k h hi; omega) (fun h => by have := HSZ.out i k hi; omega)) (fun h => by have := hk.2.2.1; omega)⟩); have HKL := zK_ (Cf.keepF_len q L i); (go_wp2_with (first | ((with_reducible refine gate_builtin (b := .append) (xs := #[.tmp 23, .tmp 29]) rfl ?_); at_builtin; refine Kd.S_append (Kd.slice 3 (Kd.int .i64)) (w0 := w) w.heap.size rfl (.tmp 23) (.tmp 29) 34 26 (.slice none 0 0) 24 rfl Try.underlying34 info26 rfl (by decide) (by omega) u5 (Cf.keepF q L i) (x.eraseIdx q) [.slice Ad (x.eraseIdx q).length cd] (fun k => (∃ j, j < i + 1 ∧ okj j k) ∨ w2.heap.size ≤ k) (fun k => okj i k ∨ wr.heap.size ≤ k) rfl rfl ?aP ?aK ?aF ?aO ?aB ?aS ?aL ?_; (case aP => exact Kd.M_row HD.out); (case aK => exact fun k hk => ⟨hk.elim (fun h => .inl ⟨i, by omega, h⟩) (fun h => .inr (by have := HI.out.2; omega)), fun e => (HSr.out.choose_spec.1 k e.symm).2 hk⟩); (case aF => exact fun k hk => .inr (by have := HI.out.2; have := HK3.out.1; omega)); (case aO => exact HSr.out); (case aB => exact HB3.out); (case aS => exact below_size HB3.out); (case aL => have := HKL.out; have := HQ.out.2.1; have := HLT.out; omega); intro v1 w4 ho hb hg hat; have HS4 := zK_ ho; have HB4 := zK_ hb; have HG4 := zK_ hg; clear ho hb hg hat))); go_roundw
    case rel =>
     refine ⟨i + 1, by go_num, ⟨by have := HLT.out; omega, by have := HI.out.2; have := HK3.out.1; have := HG4.out.size; omega⟩, HB4, ⟨fun k hk => ?_⟩, ⟨?_⟩⟩
     ·have hk2 : k < w2.heap.size ∧ ¬ (∃ j, j < i + 1 ∧ okj j k) := by
       rcases hk with hk | ⟨j, hj, h⟩
       ·(have : k = gL := by simpa [Value.ownBlock] using hk.symm); subst this; exact ⟨HGL.out, fun ⟨j, _, h⟩ => HO.out.off j k h rfl⟩
       ·exact ⟨HSZ.out j k h, fun ⟨j', hj', h'⟩ => by have := HO.out.apart j j' k h h'; omega⟩
      have hkr : k < wr.heap.size := Nat.lt_of_lt_of_le hk2.1 HI.out.2; (have h1 := HG4.out.block k (Nat.lt_of_lt_of_le hkr HK3.out.1) fun e => (HSr.out.choose_spec.1 k e.symm).1.elim hk2.2 fun h => by have := hk2.1; omega); (have h2 := HK3.out.2 k hkr fun h => hk2.2 ⟨i, by omega, h⟩); exact h1.trans (h2.trans (HM.out k (hk.imp_right fun ⟨j, hj, h⟩ => ⟨j, by omega, h⟩)))
     ·have e : Cf.keepF q L (i + 1) = Cf.keepF q L i ++ [x.eraseIdx q] := by
       show (if i = q then _ else _) = _; rw [if_neg HQI.out, List.getD_eq_getElem?_getD, HXI.out]; rfl
      rw [e]; exact HS4.out
    case measure =>
     have := HLT.out; (simp [intOf]); omega
  ·cases H
def impl_CountTrees.f (k : Nat) (aD : Int) (aC : List (S57)) : Option (Int) := (impl_GraphOk.f aD aC).bind fun aQ => (if aQ = true then ((impl_ReducedLaplacian.f k aD aC 0).bind fun bQ => ((impl_Determinant.f k bQ).bind fun cK => (some cK))) else (some 0))
theorem impl_CountTrees.mono : ∀ a0 a1 k, LeO (impl_CountTrees.f k a0 a1) (impl_CountTrees.f (k + 1) a0 a1) := by
 intro a0 a1 k; unfold impl_CountTrees.f; repeat' first | (with_reducible apply impl_Determinant.mono) | (with_reducible apply impl_ReducedLaplacian.mono) | (with_reducible exact LeO.refl _) | (with_reducible exact LeO.none _) | (with_reducible refine LeO.ite ?_ ?_) | (with_reducible refine LeO.bind ?_ (fun _ => ?_)) | apply impl_Determinant.mono | apply impl_ReducedLaplacian.mono | exact LeO.none _ | refine LeO.ite ?_ ?_ | refine LeO.bind ?_ (fun _ => ?_)
theorem impl_CountTrees.calls (k : Nat) (aD : Int) (aH : Option Addr) (aG : Nat) (aC : List (S57)) (r : Int) (w : World) (hr0_1 : Kd.C k57 w aH aC.length aC) (hc0_1 : aC.length ≤ aG) (h : impl_CountTrees.f k aD aC = some r) :
  Calls Try.prog 85 #[.agg #[.int .i64 aD, .slice aH aC.length aG]] w fun e w' => e = .returned (.int .i64 r) ∧ Below w.heap.size w w' := by
 have hu25 := Try.underlying25; have bJ := zK_ hr0_1; have bE := zK_ hc0_1; clear hr0_1 hc0_1; have HB := zK_ (Below.refl w.heap.size w); have H : ((impl_GraphOk.f aD aC).bind fun aQ => (if aQ = true then ((impl_ReducedLaplacian.f k aD aC 0).bind fun bQ => ((impl_Determinant.f k bQ).bind fun cK => (some cK))) else (some 0))) = some r := h; clear h; obtain ⟨aQ, A20, H⟩ := zO_ H; (try dsimp only at H); have A2 := zK_ A20; clear A20; by_cases c3 : aQ = true; rotate_left
 ·replace c3 := Bool.eq_false_iff.mpr c3; subst c3; rw [if_neg (show ¬ (false = true) by decide)] at H; obtain rfl := Option.some.inj H; go_enter Try.func85, Try.ntmps85; (go_wp2_with (first | ((with_reducible refine gate_dst (N := 1) rfl ?_); refine box_event ?hg (N := 1) ?hd (cs := #[.int .i64 aD, .slice aH aC.length aG]) (t := 25) ?hr ?_; (case hd => rfl); (case hg => rfl); (case hr => exact zz9); intro aE hg w13 hbox hb; have n_ := zA4 (below_step zz1 hb) hbox (zz10 : w.heap.size ≤ aE) (zz10 : w.heap.size ≤ aE); clear HB; obtain ⟨HB, aA, GW101, GE101⟩ := n_; clear hb hbox hg; have d3 := zC20 aA; have d2 := zC21 aA; have dZ := blk_frozen aA.out 0; have dY := blk_frozen aA.out 1) | ((with_reducible refine gate_callee (f := 50) rfl ?_); refine goesL_ (some 4) rfl rfl Try.func50 (by kernel_rfl) rfl #[.agg #[.int .i64 aD, .slice aH aC.length aG]] rfl zz3 ?_; (with_reducible refine (impl_GraphOk.calls aD _ _ aC false _ ?side1 ?side2 A2.out).mono ?_); (case side1 => exact zz6); (case side2 => exact bE.out); rintro e w15 ⟨rfl, hb⟩; refine ⟨_, rfl, ?_⟩; have n_ := zA2 (blk_below (g := aE) (o := .cells #[.int .i64 aD, .slice aH aC.length aG] 25 (0, 0)) zz2 hb) (below_step zz0 hb); clear aA HB; obtain ⟨aA, HB⟩ := n_; clear hb))); go_ret; exact ⟨zz7, zz0⟩
 subst c3; rw [if_pos rfl] at H; obtain ⟨bQ, A40, H⟩ := zO_ H; (try dsimp only at H); have A4 := zK_ A40; clear A40; obtain ⟨cK, A50, H⟩ := zO_ H; (try dsimp only at H); have A5 := zK_ A50; clear A50; obtain rfl := Option.some.inj H; go_enter Try.func85, Try.ntmps85; (go_wp2_with (first | ((with_reducible refine gate_dst (N := 1) rfl ?_); refine box_event ?hg (N := 1) ?hd (cs := #[.int .i64 aD, .slice aH aC.length aG]) (t := 25) ?hr ?_; (case hd => rfl); (case hg => rfl); (case hr => exact zz9); intro aE hg w6 hbox hb; have n_ := zA4 (below_step zz1 hb) hbox (zz10 : w.heap.size ≤ aE) (zz10 : w.heap.size ≤ aE); clear HB; obtain ⟨HB, aA, GW101, GE101⟩ := n_; clear hb hbox hg; have eO := zC20 aA; have eM := zC21 aA; have eI := blk_frozen aA.out 0; have eH := blk_frozen aA.out 1) | ((with_reducible refine gate_callee (f := 50) rfl ?_); refine goesL_ (some 4) rfl rfl Try.func50 (by kernel_rfl) rfl #[.agg #[.int .i64 aD, .slice aH aC.length aG]] rfl zz3 ?_; (with_reducible refine (impl_GraphOk.calls aD _ _ aC true _ ?side1 ?side2 A2.out).mono ?_); (case side1 => exact zz6); (case side2 => exact bE.out); rintro e w8 ⟨rfl, hb⟩; refine ⟨_, rfl, ?_⟩; have n_ := zA2 (blk_below (g := aE) (o := .cells #[.int .i64 aD, .slice aH aC.length aG] 25 (0, 0)) zz2 hb) (below_step zz0 hb); clear aA HB; obtain ⟨aA, HB⟩ := n_; clear hb; have fD := zC20 aA; have fC := zC21 aA; have fB := blk_frozen aA.out 0; have fA := blk_frozen aA.out 1) | ((with_reducible refine gate_callee (f := 121) rfl ?_); refine goesL_ (some 7) rfl rfl Try.func121 (by kernel_rfl) rfl #[.agg #[.int .i64 aD, .slice aH aC.length aG], .int .i64 0] rfl zz3 ?_; (with_reducible refine (impl_ReducedLaplacian.calls k aD _ _ aC 0 bQ _ ?side1 ?side2 A4.out).mono ?_); (case side1 => exact zz6); (case side2 => exact bE.out); rintro e w10 ⟨v104, rfl, ho0, hb⟩; refine ⟨_, rfl, ?_⟩; have n_ := zA3 (Kd.S_lower ho0 (below_size zz0)) (blk_below (g := aE) (o := .cells #[.int .i64 aD, .slice aH aC.length aG] 25 (0, 0)) zz2 hb) (below_step zz0 hb); clear aA HB; obtain ⟨eW, aA, HB⟩ := n_; clear ho0 hb; obtain ⟨Ao11, co11, tH⟩ := Kd.S_slice eW.out; subst tH) | ((with_reducible refine gate_callee (f := 120) rfl ?_); refine goesL_ (some 8) rfl rfl Try.func120 (by kernel_rfl) rfl #[.slice Ao11 bQ.length co11] rfl zz3 ?_; (with_reducible refine (impl_Determinant.calls k _ _ bQ cK _ ?side1 ?side2 A5.out).mono ?_); (case side1 => repeat (first | exact (Kd.S_reads' eW.out).2.2 | (with_reducible refine Kd.C_alloc ?_ _) | (with_reducible refine Kd.C_drewN ?_ _) | (with_reducible refine Kd.C_drew ?_))); (case side2 => exact (Kd.S_reads' eW.out).2.1); rintro e w12 ⟨rfl, hb⟩; refine ⟨_, rfl, ?_⟩; have n_ := zA3 (Kd.S_below (by (with_reducible repeat (first | apply Kd.S_alloc | apply Kd.S_drewN | apply Kd.S_drew)); exact eW.out) hb) (blk_below (g := aE) (o := .cells #[.int .i64 aD, .slice aH aC.length aG] 25 (0, 0)) zz2 hb) (below_step zz0 hb); clear eW aA HB; obtain ⟨eW, aA, HB⟩ := n_; clear hb))); go_ret; exact ⟨zz7, zz0⟩
def impl_GroupOrder.f (k : Nat) (aD : Int) (aC : List (S57)) : Option (Int) := (impl_CountTrees.f k aD aC).bind fun aQ => (some aQ)
theorem impl_GroupOrder.mono : ∀ a0 a1 k, LeO (impl_GroupOrder.f k a0 a1) (impl_GroupOrder.f (k + 1) a0 a1) := by
 intro a0 a1 k; unfold impl_GroupOrder.f; repeat' first | (with_reducible apply impl_CountTrees.mono) | (with_reducible exact LeO.refl _) | (with_reducible exact LeO.none _) | (with_reducible refine LeO.ite ?_ ?_) | (with_reducible refine LeO.bind ?_ (fun _ => ?_)) | apply impl_CountTrees.mono | exact LeO.none _ | refine LeO.ite ?_ ?_ | refine LeO.bind ?_ (fun _ => ?_)
theorem impl_GroupOrder.calls (k : Nat) (aD : Int) (aH : Option Addr) (aG : Nat) (aC : List (S57)) (r : Int) (w : World) (hr0_1 : Kd.C k57 w aH aC.length aC) (hc0_1 : aC.length ≤ aG) (h : impl_GroupOrder.f k aD aC = some r) :
  Calls Try.prog 48 #[.agg #[.int .i64 aD, .slice aH aC.length aG]] w fun e w' => e = .returned (.int .i64 r) ∧ Below w.heap.size w w' := by
 have hu25 := Try.underlying25; have bJ := zK_ hr0_1; have bE := zK_ hc0_1; clear hr0_1 hc0_1; have HB := zK_ (Below.refl w.heap.size w); have H : ((impl_CountTrees.f k aD aC).bind fun aQ => (some aQ)) = some r := h; clear h; obtain ⟨aQ, A20, H⟩ := zO_ H; (try dsimp only at H); have A2 := zK_ A20; clear A20; obtain rfl := Option.some.inj H; go_enter Try.func48, Try.ntmps48; (go_wp2_with (first | ((with_reducible refine gate_dst (N := 1) rfl ?_); refine box_event ?hg (N := 1) ?hd (cs := #[.int .i64 aD, .slice aH aC.length aG]) (t := 25) ?hr ?_; (case hd => rfl); (case hg => rfl); (case hr => exact zz9); intro aE hg w3 hbox hb; have n_ := zA4 (below_step zz1 hb) hbox (zz10 : w.heap.size ≤ aE) (zz10 : w.heap.size ≤ aE); clear HB; obtain ⟨HB, aA, GW101, GE101⟩ := n_; clear hb hbox hg; have tC := zC20 aA; have tB := zC21 aA; have sX := blk_frozen aA.out 0; have sW := blk_frozen aA.out 1) | ((with_reducible refine gate_callee (f := 85) rfl ?_); refine goesL_ (some 4) rfl rfl Try.func85 (by kernel_rfl) rfl #[.agg #[.int .i64 aD, .slice aH aC.length aG]] rfl zz3 ?_; (with_reducible refine (impl_CountTrees.calls k aD _ _ aC aQ _ ?side1 ?side2 A2.out).mono ?_); (case side1 => exact zz6); (case side2 => exact bE.out); rintro e w5 ⟨rfl, hb⟩; refine ⟨_, rfl, ?_⟩; have n_ := zA2 (blk_below (g := aE) (o := .cells #[.int .i64 aD, .slice aH aC.length aG] 25 (0, 0)) zz2 hb) (below_step zz0 hb); clear aA HB; obtain ⟨aA, HB⟩ := n_; clear hb))); go_ret; exact ⟨zz7, zz0⟩
def slices_Index_int_int.l0 : Nat → List Int → Int → Int → Int → Option (Int)
 | 0, _, _, _, _ => none
 | k + 1, x0, x1, x7, x8 => if x8 < x7 then (if 0 ≤ x8 then (if x8 < (x0.length : Int) then (if x1 = (rd x0 x8) then (some x8) else (slices_Index_int_int.l0 k x0 x1 x7 (wrap64 (x8 + 1)))) else (none)) else (none)) else (some (-1))
def slices_Index_int_int.f (k : Nat) (l0 : List Int) (a1 : Int) : Option (Int) := slices_Index_int_int.l0 k l0 a1 (l0.length : Int) 0
theorem slices_Index_int_int.mono_l : ∀ k, (∀ y0 y1 y2 y3, LeO (slices_Index_int_int.l0 k y0 y1 y2 y3) (slices_Index_int_int.l0 (k + 1) y0 y1 y2 y3))
 | 0 => fun _ _ _ _ r h => by simp [slices_Index_int_int.l0] at h
 | k + 1 => by
  have ih0 := slices_Index_int_int.mono_l k
  ·intro y0 y1 y2 y3
   unfold slices_Index_int_int.l0
   exact zm0
theorem slices_Index_int_int.mono : ∀ a0 a1 k, LeO (slices_Index_int_int.f k a0 a1) (slices_Index_int_int.f (k + 1) a0 a1) := by
 intro a0 a1 k; have ih0 := slices_Index_int_int.mono_l k; unfold slices_Index_int_int.f; exact zm0
theorem slices_Index_int_int.calls (k : Nat) (A0 : Option Addr) (c0 : Nat) (l0 : List Int) (a1 : Int) (r : Int) (w : World) (hr0 : Kd.C (Kd.int .i64) w A0 l0.length l0) (hc0 : l0.length ≤ c0) (h : slices_Index_int_int.f k l0 a1 = some r) :
  Calls Try.prog 80 #[.slice A0 l0.length c0, .int .i64 a1] w fun e w' => e = .returned (.int .i64 r) ∧ Drawn0 w w' := by
 have HR0 := zK_ hr0; have HC0 := zK_ hc0; clear hr0 hc0; have H : (slices_Index_int_int.l0 k l0 a1 (l0.length : Int) 0) = some r := h; clear h; have H' := zK_ H; clear H; go_enter Try.func80, Try.ntmps80; go_wp2; (go_loopg [8] k (fun kq v8 w' => ∃ (bD : Int), v8 = .int .i64 bD ∧ Aside0 (slices_Index_int_int.l0 kq l0 a1 (l0.length : Int) bD = some r) ∧ Aside0 (kq ≤ k) ∧ Drawn0 w w')); case atStart => exact ⟨(0), zz5, H', ⟨Nat.le_refl _⟩, by repeat (first | exact Drawn0.refl _ | apply Drawn0.step)⟩
 case round =>
  clear H'; (try clear p2); obtain ⟨bD, rfl, HA, HK1, ⟨m1, rfl⟩⟩ := hrel
  cases gk with
  | zero => exact absurd HA.out (by simp [slices_Index_int_int.l0])
  | succ k1 =>
   have H := HA.out; clear HA; simp only [slices_Index_int_int.l0] at H; by_cases c3 : bD < (l0.length : Int); rotate_left
   ·rw [if_neg c3] at H; have dU := decide_eq_false c3; clear c3; obtain rfl := Option.some.inj H; go_wp2; go_ret; exact ⟨zz5, by repeat (first | exact Drawn0.refl _ | apply Drawn0.step)⟩
   rw [if_pos c3] at H; have dU := decide_eq_true c3; clear c3; by_cases c4 : 0 ≤ bD; rotate_left
   ·rw [if_neg c4] at H; exact absurd H (by simp)
   rw [if_pos c4] at H; have dI := decide_eq_true c4; clear c4; by_cases c5 : bD < (l0.length : Int); rotate_left
   ·rw [if_neg c5] at H; exact absurd H (by simp)
   rw [if_pos c5] at H; have dS := decide_eq_true c5; clear c5; by_cases c6 : a1 = (rd l0 bD)
   ·rw [if_pos c6] at H; have eS : (a1 == (rd l0 bD)) = true := beq_iff_eq.mpr c6; have lB : (a1 != (rd l0 bD)) = false := bne_eq_false_iff_eq.mpr c6; clear c6; obtain rfl := Option.some.inj H; have p101 : 0 ≤ (bD : Int) := of_decide_eq_true zz4; have q101 : bD < (l0.length : Int) := of_decide_eq_true zz4; obtain ⟨cR, e101, a7⟩ := Kd.at_int HR0.out bD p101 q101; cases e101; replace p101 := eq_true p101; replace q101 := eq_true q101; go_wp2; go_ret; exact ⟨zz5, by repeat (first | exact Drawn0.refl _ | apply Drawn0.step)⟩
   rw [if_neg c6] at H; have eS : (a1 == (rd l0 bD)) = false := beq_eq_false_iff_ne.mpr c6; have lB : (a1 != (rd l0 bD)) = true := bne_iff_ne.mpr c6; have H' := zK_ H; clear H; have p101 : 0 ≤ (bD : Int) := of_decide_eq_true zz4; have q101 : bD < (l0.length : Int) := of_decide_eq_true zz4; obtain ⟨cR, e101, a7⟩ := Kd.at_int HR0.out bD p101 q101; cases e101; replace p101 := eq_true p101; replace q101 := eq_true q101; go_wp2; go_roundg k1; (case measure => have := HK1.out; omega); case rel => exact ⟨(wrap64 (bD + 1)), zz5, H', ⟨zz36⟩, by repeat (first | exact Drawn0.refl _ | apply Drawn0.step)⟩
def slices_Contains_int_int.f (k : Nat) (l0 : List Int) (a1 : Int) : Option (Bool) := (slices_Index_int_int.f k l0 a1).bind fun dG => (some (decide (dG ≥ 0)))
theorem slices_Contains_int_int.mono : ∀ a0 a1 k, LeO (slices_Contains_int_int.f k a0 a1) (slices_Contains_int_int.f (k + 1) a0 a1) := by
 intro a0 a1 k; unfold slices_Contains_int_int.f; repeat' first | (with_reducible apply slices_Index_int_int.mono) | (with_reducible exact LeO.refl _) | (with_reducible exact LeO.none _) | (with_reducible refine LeO.ite ?_ ?_) | (with_reducible refine LeO.bind ?_ (fun _ => ?_)) | apply slices_Index_int_int.mono | exact LeO.none _ | refine LeO.ite ?_ ?_ | refine LeO.bind ?_ (fun _ => ?_)
theorem slices_Contains_int_int.calls (k : Nat) (A0 : Option Addr) (c0 : Nat) (l0 : List Int) (a1 : Int) (r : Bool) (w : World) (hr0 : Kd.C (Kd.int .i64) w A0 l0.length l0) (hc0 : l0.length ≤ c0) (h : slices_Contains_int_int.f k l0 a1 = some r) :
  Calls Try.prog 43 #[.slice A0 l0.length c0, .int .i64 a1] w fun e w' => e = .returned (.bool r) ∧ Drawn0 w w' := by
 have HR0 := zK_ hr0; have HC0 := zK_ hc0; clear hr0 hc0; have H : ((slices_Index_int_int.f k l0 a1).bind fun dG => (some (decide (dG ≥ 0)))) = some r := h; clear h; obtain ⟨dG, A30, H⟩ := zO_ H; (try dsimp only at H); have A3 := zK_ A30; clear A30; obtain rfl := Option.some.inj H; go_enter Try.func43, Try.ntmps43; (go_wp2_with (first | ((with_reducible refine gate_callee (f := 80) rfl ?_); refine goesL_ (some 7) rfl rfl Try.func80 (by kernel_rfl) rfl #[.slice A0 l0.length c0, .int .i64 a1] rfl zz3 ?_; (with_reducible refine (slices_Index_int_int.calls k _ _ l0 a1 dG _ ?side1 ?side2 A3.out).mono ?_); (case side1 => exact zz24); (case side2 => exact HC0.out); rintro e w' ⟨rfl, ⟨nd, rfl⟩⟩; refine ⟨_, rfl, ?_⟩))); go_ret; exact ⟨zz5, by repeat (first | exact Drawn0.refl _ | apply Drawn0.step)⟩
mutual
def impl_burn.l0 : Nat → List Int → List Int → Int → List (S57) → Option (List Int)
 | 0, _, _, _, _ => none
 | k + 1, x1, x7, aJ, aI => impl_burn.l1 k x1 x7 (-1) 0 aJ aI
def impl_burn.l1 : Nat → List Int → List Int → Int → Int → Int → List (S57) → Option (List Int)
 | 0, _, _, _, _, _, _ => none
 | k + 1, x1, x7, x8, x9, aJ, aI => if x9 < aJ then (impl_burn.j2 k x1 x7 x8 x9 (decide (x8 < 0)) aJ aI) else (impl_burn.j2 k x1 x7 x8 x9 false aJ aI)
def impl_burn.j2 : Nat → List Int → List Int → Int → Int → Bool → Int → List (S57) → Option (List Int)
 | 0, _, _, _, _, _, _, _ => none
 | k + 1, x1, x7, x8, x9, rC, aJ, aI => if rC = true then (impl_burn.l2 k x1 x7 x8 x9 0 x7 (x7.length : Int) 0 aJ aI) else (if x8 < 0 then (some x7) else (if x7.length < 17592186044416 then (impl_burn.l0 k x1 (x7 ++ [x8]) aJ aI) else (none)))
def impl_burn.l2 : Nat → List Int → List Int → Int → Int → Int → List Int → Int → Int → Int → List (S57) → Option (List Int)
 | 0, _, _, _, _, _, _, _, _, _, _ => none
 | k + 1, x1, x7, x8, x9, fF, nN, mF, rB, aJ, aI => if rB < mF then (if 0 ≤ rB then (if rB < (nN.length : Int) then ((impl_Multiplicity.f k aJ aI x9 (rd nN rB)).bind fun pA => (impl_burn.l2 k x1 x7 x8 x9 (wrap64 (fF + pA)) nN mF (wrap64 (rB + 1)) aJ aI)) else (none)) else (none)) else ((slices_Contains_int_int.f k x7 x9).bind fun iT => (if iT = true then (impl_burn.l1 k x1 x7 x8 (wrap64 (x9 + 1)) aJ aI) else (if 0 ≤ x9 then (if x9 < (x1.length : Int) then (if (rd x1 x9) < fF then (impl_burn.l1 k x1 x7 x9 (wrap64 (x9 + 1)) aJ aI) else (impl_burn.l1 k x1 x7 x8 (wrap64 (x9 + 1)) aJ aI)) else (none)) else (none))))
end
def impl_burn.f (k : Nat) (aD : Int) (aC : List (S57)) (l1 : List Int) (a2 : Int) : Option (List Int) := impl_burn.l0 k l1 (([a2] : List Int)) aD aC
theorem impl_burn.mono_l : ∀ k, (∀ y0 y1 y2 y3, LeO (impl_burn.l0 k y0 y1 y2 y3) (impl_burn.l0 (k + 1) y0 y1 y2 y3)) ∧ (∀ y0 y1 y2 y3 y4 y5, LeO (impl_burn.l1 k y0 y1 y2 y3 y4 y5) (impl_burn.l1 (k + 1) y0 y1 y2 y3 y4 y5)) ∧ (∀ y0 y1 y2 y3 y4 y5 y6, LeO (impl_burn.j2 k y0 y1 y2 y3 y4 y5 y6) (impl_burn.j2 (k + 1) y0 y1 y2 y3 y4 y5 y6)) ∧ (∀ y0 y1 y2 y3 y4 y5 y6 y7 y8 y9, LeO (impl_burn.l2 k y0 y1 y2 y3 y4 y5 y6 y7 y8 y9) (impl_burn.l2 (k + 1) y0 y1 y2 y3 y4 y5 y6 y7 y8 y9))
 | 0 => ⟨fun _ _ _ _ r h => by simp [impl_burn.l0] at h, fun _ _ _ _ _ _ r h => by simp [impl_burn.l1] at h, fun _ _ _ _ _ _ _ r h => by simp [impl_burn.j2] at h, fun _ _ _ _ _ _ _ _ _ _ r h => by simp [impl_burn.l2] at h⟩
 | k + 1 => by
  obtain ⟨ih0, ih1, ih2, ih3⟩ := impl_burn.mono_l k
  refine ⟨?_, ?_, ?_, ?_⟩
  ·intro y0 y1 y2 y3
   unfold impl_burn.l0
   exact zm3
  ·intro y0 y1 y2 y3 y4 y5
   unfold impl_burn.l1
   exact zm3
  ·intro y0 y1 y2 y3 y4 y5 y6
   unfold impl_burn.j2
   exact zm3
  ·intro y0 y1 y2 y3 y4 y5 y6 y7 y8 y9
   unfold impl_burn.l2
   exact zm3
theorem impl_burn.mono : ∀ a0 a1 a2 a3 k, LeO (impl_burn.f k a0 a1 a2 a3) (impl_burn.f (k + 1) a0 a1 a2 a3) := by
 intro a0 a1 a2 a3 k; obtain ⟨ih0, ih1, ih2, ih3⟩ := impl_burn.mono_l k; unfold impl_burn.f; exact zm3
theorem impl_burn.calls (k : Nat) (aD : Int) (aH : Option Addr) (aG : Nat) (aC : List (S57)) (A1 : Option Addr) (c1 : Nat) (l1 : List Int) (a2 : Int) (r : List Int) (w : World) (hr0_1 : Kd.C k57 w aH aC.length aC) (hc0_1 : aC.length ≤ aG) (hr1 : Kd.C (Kd.int .i64) w A1 l1.length l1) (hc1 : l1.length ≤ c1) (h : impl_burn.f k aD aC l1 a2 = some r) :
  Calls Try.prog 89 #[.agg #[.int .i64 aD, .slice aH aC.length aG], .slice A1 l1.length c1, .int .i64 a2] w fun e w' => ∃ v0_ : Value, e = .returned (v0_) ∧ Kd.R (Kd.int .i64) 3 w' w.heap.size (fun _ => True) v0_ r ∧ Below w.heap.size w w' := by
 have hu25 := Try.underlying25; have bJ := zK_ hr0_1; have bE := zK_ hc0_1; clear hr0_1 hc0_1; have HR1 := zK_ hr1; have HC1 := zK_ hc1; clear hr1 hc1; have HB := zK_ (Below.refl w.heap.size w); have H : (impl_burn.l0 k l1 (([a2] : List Int)) aD aC) = some r := h; clear h; obtain ⟨iS, hy_⟩ : ∃ y_ : List Int, y_ = (([a2] : List Int)) := ⟨_, rfl⟩; (replace H : (impl_burn.l0 k l1 iS aD aC) = some r := zzY); have g4 := zK_ hy_; clear hy_; have H' := zK_ H; clear H; go_enter Try.func89, Try.ntmps89; (go_wp2_with (first | ((with_reducible refine gate_dst (N := 3) rfl ?_); refine box_event ?hg (N := 3) ?hd (cs := #[.int .i64 aD, .slice aH aC.length aG]) (t := 25) ?hr ?_; (case hd => rfl); (case hg => rfl); (case hr => exact zz9); intro aE hg w4 hbox hb; have n_ := zA4 (below_step zz1 hb) hbox (zz10 : w.heap.size ≤ aE) (zz10 : w.heap.size ≤ aE); clear HB; obtain ⟨HB, aA, GW101, GE101⟩ := n_; clear hb hbox hg) | ((with_reducible refine gate_dst (N := 14) rfl ?_); refine Kd.R_lit (Kd.int .i64) _ 3 ?hg (N := 14) ?hd (xs := ([a2] : List Int)) (inner := [.int .i64 a2]) (ok := fun _ => True) (okp := fun _ => True) ?hr ?hp (fun _ hk => hk) trivial (Below.refl _ _) (Nat.le_refl _) (by simp) ?_; (case hd => rfl); (case hg => rfl); (case hr => exact zz9); (case hp => exact (Reps.one (show Kd.M (Kd.int .i64) _ _ _ a2 [.int .i64 a2] from rfl) (Reps.none _ _))); intro v103 w5 ho6 hb hg_ hnew_; clear hg_ hnew_; (first | rw [← g4.out] at ho6 | (simp only [Int.reduceToNat] at ho6; rw [← g4.out] at ho6)); have n_ := zA3 (Kd.R_lower ho6 (below_size zz0)) (blk_below (g := aE) (o := .cells #[.int .i64 aD, .slice aH aC.length aG] 25 (0, 0)) zz2 hb) (below_step zz0 hb); clear aA HB; obtain ⟨bT, aA, HB⟩ := n_; clear hb ho6))); (go_loopg [7] k (fun kq v7 w' => ∃ (b9 : List Int), Aside0 (impl_burn.l0 kq l1 b9 aD aC = some r) ∧ Aside0 (kq ≤ k) ∧ Aside0 (Kd.R (Kd.int .i64) 3 w' w.heap.size (fun _ => True) v7 b9) ∧ Aside0 (w'.heap[aE]? = some (.cells #[.int .i64 aD, (.slice aH aC.length aG)] 25 (0, 0))) ∧ Aside0 (Below w.heap.size w w'))); case atStart => exact ⟨(iS), H', ⟨Nat.le_refl _⟩, ⟨by (with_reducible repeat (first | apply Kd.R_alloc | apply Kd.R_drewN | apply Kd.R_drew)); exact bT.out⟩, ⟨zz2⟩, ⟨zz0⟩⟩
 case round =>
  clear H'; (try clear c1); (try clear p2); obtain ⟨b9, HA, HK1, f3, aA, HB⟩ := hrel
  cases gk with
  | zero => exact absurd HA.out (by simp [impl_burn.l0])
  | succ k1 =>
   have H := HA.out; clear HA; simp only [impl_burn.l0] at H; have H' := zK_ H; clear H; go_wp2; (go_loopg [8, 9] k1 (fun kq v8 v9 w' => ∃ (kG : Int) (dC : Int), v8 = .int .i64 kG ∧ v9 = .int .i64 dC ∧ Aside0 (impl_burn.l1 kq l1 b9 kG dC aD aC = some r) ∧ Aside0 (kq ≤ k1) ∧ Aside0 (Kd.R (Kd.int .i64) 3 w' w.heap.size (fun _ => True) u7 b9) ∧ Aside0 (w'.heap[aE]? = some (.cells #[.int .i64 aD, (.slice aH aC.length aG)] 25 (0, 0))) ∧ Aside0 (Below w.heap.size w w'))); case atStart => exact ⟨((-1)), (0), zz5, zz5, H', ⟨Nat.le_refl _⟩, ⟨zz23⟩, ⟨zz2⟩, ⟨zz0⟩⟩
   case round =>
    clear H'; (try clear c1); (try clear p2); (try clear p2); obtain ⟨kG, dC, rfl, rfl, HA, HK2, f3, aA, HB⟩ := hrel
    cases gk with
    | zero => exact absurd HA.out (by simp [impl_burn.l1])
    | succ k2 =>
     have H := HA.out; clear HA; simp only [impl_burn.l1] at H; have HC7 := zK_ H; clear H; (go_upto_region 4 with (fail)); go_cut [22] (fun v22 wc => ∃ (kq : Nat) (nP : Bool), v22 = .bool nP ∧ Aside0 (impl_burn.j2 kq l1 b9 kG dC nP aD aC = some r) ∧ Aside0 (kq ≤ k2) ∧ Aside0 (Kd.R (Kd.int .i64) 3 wc w.heap.size (fun _ => True) u7 b9) ∧ Aside0 (wc.heap[aE]? = some (.cells #[.int .i64 aD, (.slice aH aC.length aG)] 25 (0, 0))) ∧ Aside0 (Below w.heap.size w wc))
     case first =>
      have H := HC7.out; clear HC7; by_cases c8 : dC < aD
      ·rw [if_pos c8] at H; have fL := decide_eq_true c8; clear c8; (first | rw [fL] | (simp only [i64_w, i32_w]; rw [fL]) | skip); have H' := zK_ H; clear H; have fD := zC20 aA; have fC := zC21 aA; have fB := blk_frozen aA.out 0; have fA := blk_frozen aA.out 1; go_wp2; (go_meet); case rel => exact ⟨_, (decide (kG < 0)), zz5, H', ⟨by have := HK1.out; have := HK2.out; first | omega | exact Nat.le_refl _⟩, ⟨zz23⟩, ⟨zz2⟩, ⟨zz0⟩⟩
      rw [if_neg c8] at H; have fL := decide_eq_false c8; clear c8; (first | rw [fL] | (simp only [i64_w, i32_w]; rw [fL]) | skip); have H' := zK_ H; clear H; have cH := zC20 aA; have cG := zC21 aA; have cE := blk_frozen aA.out 0; have cC := blk_frozen aA.out 1; go_wp2; (go_meet); case rel => exact ⟨_, (false), zz5, H', ⟨by have := HK1.out; have := HK2.out; first | omega | exact Nat.le_refl _⟩, ⟨zz23⟩, ⟨zz2⟩, ⟨zz0⟩⟩
     case rest =>
      clear HC7; (try clear c1); (try clear p2); (try clear c8); (try clear fL); (try clear cH); (try clear cG); (try clear fD); (try clear fC); (try clear cE); (try clear cC); (try clear fB); (try clear fA); (try clear p2); obtain ⟨kq, nP, rfl, HA, HJ6, f3, aA, HB⟩ := hcut
      cases kq with
      | zero => exact absurd HA.out (by simp [impl_burn.j2])
      | succ kj6 =>
       have H := HA.out; clear HA; simp only [impl_burn.j2] at H; by_cases c11 : nP = true; rotate_left
       ·replace c11 := Bool.eq_false_iff.mpr c11; subst c11; rw [if_neg (show ¬ (false = true) by decide)] at H; by_cases c24 : kG < 0
        ·rw [if_pos c24] at H; have mV := decide_eq_true c24; clear c24; obtain rfl := Option.some.inj H; go_wp2; go_ret; exact ⟨_, zz7, zz23, zz0⟩
        rw [if_neg c24] at H; have mV := decide_eq_false c24; clear c24; by_cases c25 : b9.length < 17592186044416; rotate_left
        ·rw [if_neg c25] at H; exact absurd H (by simp)
        rw [if_pos c25] at H; have qZ := zK_ c25; clear c25; obtain ⟨eG, hy_⟩ : ∃ y_ : List Int, y_ = (b9 ++ [kG]) := ⟨_, rfl⟩; (replace H : (impl_burn.l0 kj6 l1 eG aD aC) = some r := zzY); have jZ := zK_ hy_; clear hy_; have H' := zK_ H; clear H; (go_wp2_with (first | ((with_reducible refine gate_builtin (b := .append) (xs := #[.tmp 54, .tmp 56]) rfl ?_); at_builtin; refine Kd.R_append (Kd.int .i64) (w0 := w) w.heap.size rfl (.tmp 54) (.tmp 56) 26 3 (.int .i64 0) 8 rfl Try.underlying26 info3 rfl (by decide) (by omega) u7 b9 kG [.int .i64 kG] (fun _ => True) (fun _ => False) rfl rfl ?aP (fun _ hk => hk.elim) ?aF ?aO ?aB ?aS ?aL ?_; (case aP => exact rfl); (case aB => exact zz0); (case aF => exact (fun _ _ => trivial)); (case aO => exact zz23); (case aS => exact (below_size zz0)); (case aL => have := qZ.out; omega); intro v106 w26 ho hb hg hat; rw [← jZ.out] at ho; have n_ := zA3 (blk_grown (g := aE) (o := .cells #[.int .i64 aD, .slice aH aC.length aG] 25 (0, 0)) zz2 hg (Kd.R_ne f3.out aA.out (by decide))) hb ho; clear aA HB f3; obtain ⟨aA, HB, dE⟩ := n_; clear ho hb hg hat))); go_roundg kj6; (case measure => have := HK1.out; have := HK2.out; have := HJ6.out; omega); case rel => exact ⟨(eG), H', ⟨by have := HK1.out; have := HK2.out; have := HJ6.out; omega⟩, ⟨by (with_reducible repeat (first | apply Kd.R_alloc | apply Kd.R_drewN | apply Kd.R_drew)); exact dE.out⟩, ⟨zz2⟩, ⟨zz0⟩⟩
       subst c11; rw [if_pos rfl] at H; have H' := zK_ H; clear H; obtain ⟨Ao12, co12, nJ⟩ := Kd.R_slice f3.out; subst nJ; go_wp2; (go_loopg [10, 27] kj6 (fun kq v10 v27 w' => ∃ (mG : Int) (iO : Int), v10 = .int .i64 mG ∧ v27 = .int .i64 iO ∧ Aside0 (impl_burn.l2 kq l1 b9 kG dC mG b9 (b9.length : Int) iO aD aC = some r) ∧ Aside0 (kq ≤ kj6) ∧ Aside0 (Kd.R (Kd.int .i64) 3 w' w.heap.size (fun _ => True) (.slice Ao12 b9.length co12) b9) ∧ Aside0 (Kd.R (Kd.int .i64) 3 w' w.heap.size (fun _ => True) (.slice Ao12 b9.length co12) b9) ∧ Aside0 (w'.heap[aE]? = some (.cells #[.int .i64 aD, (.slice aH aC.length aG)] 25 (0, 0))) ∧ Aside0 (Below w.heap.size w w'))); case atStart => exact ⟨(0), (0), zz5, zz5, H', ⟨Nat.le_refl _⟩, ⟨zz23⟩, ⟨zz23⟩, ⟨zz2⟩, ⟨zz0⟩⟩
       case round =>
        clear H'; (try clear c1); (try clear p2); (try clear c8); (try clear fL); (try clear c11); (try clear cH); (try clear cG); (try clear fD); (try clear fC); (try clear cE); (try clear cC); (try clear fB); (try clear fA); (try clear p2); obtain ⟨mG, iO, rfl, rfl, HA, HK4, f3, m7, aA, HB⟩ := hrel
        cases gk with
        | zero => exact absurd HA.out (by simp [impl_burn.l2])
        | succ k4 =>
         have H := HA.out; clear HA; simp only [impl_burn.l2] at H; by_cases c13 : iO < (b9.length : Int)
         ·rw [if_pos c13] at H; have jE := decide_eq_true c13; clear c13; by_cases c14 : 0 ≤ iO; rotate_left
          ·rw [if_neg c14] at H; exact absurd H (by simp)
          rw [if_pos c14] at H; have f9 := decide_eq_true c14; clear c14; by_cases c15 : iO < (b9.length : Int); rotate_left
          ·rw [if_neg c15] at H; exact absurd H (by simp)
          rw [if_pos c15] at H; have iY := decide_eq_true c15; clear c15; obtain ⟨pA, A160, H⟩ := zO_ H; (try dsimp only at H); have A16 := zK_ A160; clear A160; have H' := zK_ H; clear H; have p108 : 0 ≤ (iO : Int) := of_decide_eq_true zz4; have q108 : iO < (b9.length : Int) := of_decide_eq_true zz4; obtain ⟨DM, e108, wK⟩ := Kd.at_int (Kd.R_reads' m7.out).2.2 iO p108 q108; cases e108; replace p108 := eq_true p108; replace q108 := eq_true q108; have kU := zC20 aA; have kT := zC21 aA; have kO := blk_frozen aA.out 0; have kN := blk_frozen aA.out 1; (go_wp2_with (first | ((with_reducible refine gate_callee (f := 123) rfl ?_); refine goesL_ (some 35) rfl rfl Try.func123 (by kernel_rfl) rfl #[.agg #[.int .i64 aD, .slice aH aC.length aG], .int .i64 dC, .int .i64 (rd b9 iO)] rfl zz3 ?_; (with_reducible refine (impl_Multiplicity.calls k4 aD _ _ aC dC (rd b9 iO) pA _ ?side1 ?side2 A16.out).mono ?_); (case side1 => exact zz6); (case side2 => exact bE.out); rintro e w18 ⟨rfl, hb⟩; refine ⟨_, rfl, ?_⟩; have n_ := zA4 (Kd.R_below zz23 hb) (Kd.R_below (by (with_reducible repeat (first | apply Kd.R_alloc | apply Kd.R_drewN | apply Kd.R_drew)); exact m7.out) hb) (blk_below (g := aE) (o := .cells #[.int .i64 aD, .slice aH aC.length aG] 25 (0, 0)) zz2 hb) (below_step zz0 hb); clear f3 m7 aA HB; obtain ⟨f3, m7, aA, HB⟩ := n_; clear hb))); go_roundg k4; (case measure => have := HK1.out; have := HK2.out; have := HJ6.out; have := HK4.out; omega); case rel => exact ⟨(wrap64 (mG + pA)), (wrap64 (iO + 1)), zz5, zz5, H', ⟨by have := HK1.out; have := HK2.out; have := HJ6.out; have := HK4.out; omega⟩, ⟨zz23⟩, ⟨by (with_reducible repeat (first | apply Kd.R_alloc | apply Kd.R_drewN | apply Kd.R_drew)); exact m7.out⟩, ⟨zz2⟩, ⟨zz0⟩⟩
         rw [if_neg c13] at H; have jE := decide_eq_false c13; clear c13; obtain ⟨iT, A190, H⟩ := zO_ H; (try dsimp only at H); have A19 := zK_ A190; clear A190; by_cases c20 : iT = true
         ·subst c20; rw [if_pos rfl] at H; have H' := zK_ H; clear H; (go_wp2_with (first | ((with_reducible refine gate_callee (f := 43) rfl ?_); refine goesL_ (some 40) rfl rfl Try.func43 (by kernel_rfl) rfl #[.slice Ao12 b9.length co12, .int .i64 dC] rfl zz3 ?_; (with_reducible refine (slices_Contains_int_int.calls k4 _ _ b9 dC true _ ?side1 ?side2 A19.out).mono ?_); (case side1 => repeat (first | exact (Kd.R_reads' f3.out).2.2 | (with_reducible refine Kd.C_alloc ?_ _) | (with_reducible refine Kd.C_drewN ?_ _) | (with_reducible refine Kd.C_drew ?_))); (case side2 => exact (Kd.R_reads' f3.out).2.1); rintro e w' ⟨rfl, ⟨nd, rfl⟩⟩; refine ⟨_, rfl, ?_⟩))); go_roundg k4; (case measure => have := HK1.out; have := HK2.out; have := HJ6.out; have := HK4.out; omega); case rel => exact ⟨(kG), (wrap64 (dC + 1)), zz5, zz5, H', ⟨by have := HK1.out; have := HK2.out; have := HJ6.out; have := HK4.out; omega⟩, ⟨zz23⟩, ⟨zz2⟩, ⟨zz0⟩⟩
         replace c20 := Bool.eq_false_iff.mpr c20; subst c20; rw [if_neg (show ¬ (false = true) by decide)] at H; by_cases c21 : 0 ≤ dC; rotate_left
         ·rw [if_neg c21] at H; exact absurd H (by simp)
         rw [if_pos c21] at H; have kC := decide_eq_true c21; clear c21; by_cases c22 : dC < (l1.length : Int); rotate_left
         ·rw [if_neg c22] at H; exact absurd H (by simp)
         rw [if_pos c22] at H; have oY := decide_eq_true c22; clear c22; by_cases c23 : (rd l1 dC) < mG
         ·rw [if_pos c23] at H; have oX := decide_eq_true c23; clear c23; have H' := zK_ H; clear H; (go_wp2_with (first | ((with_reducible refine gate_callee (f := 43) rfl ?_); refine goesL_ (some 40) rfl rfl Try.func43 (by kernel_rfl) rfl #[.slice Ao12 b9.length co12, .int .i64 dC] rfl zz3 ?_; (with_reducible refine (slices_Contains_int_int.calls k4 _ _ b9 dC false _ ?side1 ?side2 A19.out).mono ?_); (case side1 => repeat (first | exact (Kd.R_reads' f3.out).2.2 | (with_reducible refine Kd.C_alloc ?_ _) | (with_reducible refine Kd.C_drewN ?_ _) | (with_reducible refine Kd.C_drew ?_))); (case side2 => exact (Kd.R_reads' f3.out).2.1); rintro e w' ⟨rfl, ⟨nd, rfl⟩⟩; refine ⟨_, rfl, ?_⟩; have p111 : 0 ≤ (dC : Int) := of_decide_eq_true zz4; have q111 : dC < (l1.length : Int) := of_decide_eq_true zz4; obtain ⟨vN, e111, iM⟩ := Kd.at_int HR1.out dC p111 q111; cases e111; replace iM := (HB.out.cell (World.block_lt_of_cell? w _ iM)).trans iM; replace p111 := eq_true p111; replace q111 := eq_true q111))); go_roundg k4; (case measure => have := HK1.out; have := HK2.out; have := HJ6.out; have := HK4.out; omega); case rel => exact ⟨(dC), (wrap64 (dC + 1)), zz5, zz5, H', ⟨by have := HK1.out; have := HK2.out; have := HJ6.out; have := HK4.out; omega⟩, ⟨zz23⟩, ⟨zz2⟩, ⟨zz0⟩⟩
         rw [if_neg c23] at H; have oX := decide_eq_false c23; clear c23; have H' := zK_ H; clear H; (go_wp2_with (first | ((with_reducible refine gate_callee (f := 43) rfl ?_); refine goesL_ (some 40) rfl rfl Try.func43 (by kernel_rfl) rfl #[.slice Ao12 b9.length co12, .int .i64 dC] rfl zz3 ?_; (with_reducible refine (slices_Contains_int_int.calls k4 _ _ b9 dC false _ ?side1 ?side2 A19.out).mono ?_); (case side1 => repeat (first | exact (Kd.R_reads' f3.out).2.2 | (with_reducible refine Kd.C_alloc ?_ _) | (with_reducible refine Kd.C_drewN ?_ _) | (with_reducible refine Kd.C_drew ?_))); (case side2 => exact (Kd.R_reads' f3.out).2.1); rintro e w' ⟨rfl, ⟨nd, rfl⟩⟩; refine ⟨_, rfl, ?_⟩; have p111 : 0 ≤ (dC : Int) := of_decide_eq_true zz4; have q111 : dC < (l1.length : Int) := of_decide_eq_true zz4; obtain ⟨vN, e111, iM⟩ := Kd.at_int HR1.out dC p111 q111; cases e111; replace iM := (HB.out.cell (World.block_lt_of_cell? w _ iM)).trans iM; replace p111 := eq_true p111; replace q111 := eq_true q111))); go_roundg k4; (case measure => have := HK1.out; have := HK2.out; have := HJ6.out; have := HK4.out; omega); case rel => exact ⟨(kG), (wrap64 (dC + 1)), zz5, zz5, H', ⟨by have := HK1.out; have := HK2.out; have := HJ6.out; have := HK4.out; omega⟩, ⟨zz23⟩, ⟨zz2⟩, ⟨zz0⟩⟩
end Go.Proofs.Ytnbljcgdgblgoaa.P
end

section
namespace Go.Proofs.Ytnbljcgdgblgoaa.P
open Go.RowKit Go.Proofs.YtnbljcgdgblgoaaW.PrintWords Go.Proofs.YtnbljcgdgblgoaaW.PrintLast Go.Proofs.YtnbljcgdgblgoaaW.PrintMore
attribute [local go_sem] max2_int min2_int max_two min_two max_three min_three max_four min_four
set_option linter.unusedVariables false
set_option linter.unusedSimpArgs false
def impl_copyInts.f (l0 : List Int) : Option (List Int) := if ([] : List Int).length + l0.length < 17592186044416 then (some (([] : List Int) ++ l0)) else (none)
theorem impl_copyInts.calls (A0 : Option Addr) (c0 : Nat) (l0 : List Int) (r : List Int) (w : World) (hr0 : Kd.C (Kd.int .i64) w A0 l0.length l0) (hc0 : l0.length ≤ c0) (h : impl_copyInts.f l0 = some r) :
  Calls Try.prog 86 #[.slice A0 l0.length c0] w fun e w' => ∃ v0_ : Value, e = .returned (v0_) ∧ Kd.R (Kd.int .i64) 3 w' w.heap.size (fun _ => True) v0_ r ∧ Below w.heap.size w w' := by
 have HR0 := zK_ hr0; have HC0 := zK_ hc0; clear hr0 hc0; have HB := zK_ (Below.refl w.heap.size w); have H : (if ([] : List Int).length + l0.length < 17592186044416 then (some (([] : List Int) ++ l0)) else (none)) = some r := h; clear h; by_cases c2 : ([] : List Int).length + l0.length < 17592186044416; rotate_left
 ·rw [if_neg c2] at H; exact absurd H (by simp)
 rw [if_pos c2] at H; have BB := zK_ c2; clear c2; obtain ⟨eY, hy_⟩ : ∃ y_ : List Int, y_ = (([] : List Int) ++ l0) := ⟨_, rfl⟩; (replace H : (some eY) = some r := zzY); have gA := zK_ hy_; clear hy_; obtain rfl := Option.some.inj H; go_enter Try.func86, Try.ntmps86; (go_wp2_with (first | ((with_reducible refine gate_builtin (b := .append) (xs := #[.const (.slice none 0 0), .tmp 3]) rfl ?_); at_builtin; refine Kd.R_append_rows (Kd.int .i64) (w0 := w) w.heap.size rfl (.const (.slice none 0 0)) (.tmp 3) 26 3 (.int .i64 0) 8 rfl Try.underlying26 info3 rfl (by decide) (by omega) (.slice none 0 0) ([] : List Int) l0 _ _ _ (fun _ => True) (fun _ => False) rfl rfl ?aO ?aR (fun _ _ h => h) (fun _ h => h.elim) ?aF ?aB ?aS ?aL ?_; (case aR => exact zz24); (case aB => exact zz1); (case aF => exact (fun _ _ => trivial)); (case aO => exact ((Kd.R_nil _ _ _ _ (fun _ => True)))); (case aS => exact (below_size zz1)); (case aL => have := BB.out; omega); intro v102 w3 ho hb hg hat; rw [← gA.out] at ho; have n_ := zA2 hb ho; clear HB; obtain ⟨HB, j5⟩ := n_; clear ho hb hg hat))); go_ret; exact ⟨_, zz7, zz40, zz1⟩
def impl_reducedAt.pr (k : Nat) (a0 : Int) (es : List S57) (q : Int) (x : List Int) : Bool := match impl_burn.f k a0 es x q with | some r => decide ((r.length : Int) < a0) | none => false
structure impl_reducedAt.Ctx (a0 q : Int) (es : List S57) (A0 : Option Addr) (c0 bg bq g cap : Nat) (ok : Nat → Prop) (f : Nat → Nat) (cur : Array Value) (rows : List (List Int)) (w0 w : World) : Prop where
 hb : Below w0.heap.size w0 w
 hg : w.heap[bg]? = some (.cells #[.int .i64 a0, .slice A0 es.length c0] 25 (0, 0))
 hq : w.heap[bq]? = some (.cells #[.int .i64 q] 3 (0, 0))
 hc : w.heap[g]? = some (.cells cur 26 (0, 0))
 hH : Cf.Heads w w0.heap.size ok f cur rows.zipIdx
theorem impl_reducedAt.Ctx.step {a0 q : Int} {es : List S57} {A0 : Option Addr} {c0 bg bq g cap : Nat} {ok : Nat → Prop} {f : Nat → Nat} {cur : Array Value} {rows : List (List Int)} {w0 w w1 : World} (h : impl_reducedAt.Ctx a0 q es A0 c0 bg bq g cap ok f cur rows w0 w) (hb : Below w.heap.size w w1) : impl_reducedAt.Ctx a0 q es A0 c0 bg bq g cap ok f cur rows w0 w1 :=
 ⟨below_step h.hb hb, blk_below h.hg hb, blk_below h.hq hb, blk_below h.hc hb, Cf.heads_step h.hH fun k _ hlt => hb.block k hlt⟩
theorem impl_reducedAt.Ctx.row {a0 q : Int} {es : List S57} {A0 : Option Addr} {c0 bg bq g cap : Nat} {ok : Nat → Prop} {f : Nat → Nat} {cur : Array Value} {rows : List (List Int)} {w0 w : World} (h : impl_reducedAt.Ctx a0 q es A0 c0 bg bq g cap ok f cur rows w0 w) {j : Nat} (hj : j < rows.length) : ∃ A c, cur[j]? = some (.slice A rows[j].length c) ∧ Kd.R (Kd.int .i64) 3 w w0.heap.size (fun k => ok k ∧ f k = j) (.slice A rows[j].length c) rows[j] := by
 obtain ⟨v, hv, hR⟩ := h.hH j rows[j] j (by rw [List.getElem?_zipIdx, List.getElem?_eq_getElem hj, Nat.zero_add]; rfl); obtain ⟨A, c, e⟩ := Kd.R_slice hR; subst e; exact ⟨A, c, hv, hR⟩
def impl_reducedAt.T1 : Bool × List (List Nat × List Nat) := (true, [([], []), ([], []), ([], []), ([0, 1, 2], [0, 1, 2]), ([3], [3]), ([], []), ([5], [5]), ([4, 6], [4, 6]), ([7, 3, 0, 1, 2, 3, 4, 5, 6, 7], [7])])
def impl_reducedAt.B1 : List Nat := [0, 0, 0, 7, 15, 0, 32, 127, 255]
theorem impl_reducedAt.tab1 : rtab .any (opsOf Try.f88 1) = impl_reducedAt.T1 := by kernel_rfl
theorem impl_reducedAt.bits1 : waitsOk impl_reducedAt.T1.2 impl_reducedAt.B1 = true := by kernel_rfl
theorem impl_reducedAt.clo (k : Nat) (a0 q : Int) (es : List S57) (A0 : Option Addr) (c0 bg bq : Nat) (w : World) (hE : Kd.C k57 w A0 es.length es) (hc0 : es.length ≤ c0) (hg : w.heap[bg]? = some (.cells #[.int .i64 a0, .slice A0 es.length c0] 25 (0, 0))) (hq : w.heap[bq]? = some (.cells #[.int .i64 q] 3 (0, 0))) (Ax : Option Addr) (cx : Nat) (x r : List Int) (hx : Kd.C (Kd.int .i64) w Ax x.length x) (hcx : x.length ≤ cx) (h : impl_burn.f k a0 es x q = some r) :
  Calls Try.prog 88 #[.slice Ax x.length cx, .pointer (some ⟨bg, 0, none⟩), .pointer (some ⟨bq, 0, none⟩)] w fun e w' => e = .returned (.bool (impl_reducedAt.pr k a0 es q x)) ∧ Below w.heap.size w w' := by
 have hu25 := Try.underlying25; (have hpr : impl_reducedAt.pr k a0 es q x = decide ((r.length : Int) < a0) := by unfold impl_reducedAt.pr; rw [h]); rw [hpr]; have HE := Aside0.mk hE; have HC := Aside0.mk hc0; have HG := Aside0.mk hg; have HQ := Aside0.mk hq; have HX := Aside0.mk hx; have HCX := Aside0.mk hcx; have HH := Aside0.mk h; clear hE hc0 hg hq hx hcx h hpr; go_enter Try.func88, Try.ntmps88; (try go_wp2); refine start_ (n := 9) (S := fun w' => w'.cell? ⟨bg, 0, none⟩ = some (.int .i64 a0) ∧ w'.cell? ⟨bg, 1, none⟩ = some (.slice A0 es.length c0) ∧ w'.cell? ⟨bq, 0, none⟩ = some (.int .i64 q)) (ds := []) (zM 9 0) (by kernel_rfl) rfl rfl ⟨(blk_cell HG.out 0).trans rfl, (blk_cell HG.out 1).trans rfl, (blk_cell HQ.out 0).trans rfl⟩ (fun hHeld => ?_); refine with_tabW impl_reducedAt.tab1 impl_reducedAt.bits1 (fun HT_ HW_ => ?_); have HB1 := Aside0.mk (below_drew (Below.refl w.heap.size w)); have HG1 := Aside0.mk (blk_below HG.out HB1.out); have DN := Aside0.mk (blk_below HQ.out HB1.out); have HE1 := Aside0.mk (Kd.C_below HE.out HB1.out); have HX1 := Aside0.mk (Kd.C_below HX.out HB1.out); generalize w.drew = wd at HB1 HG1 DN HE1 HX1 hHeld ⊢; refine zQ 1 6 (zM 9 2) ?_
 refine zQ 5 10 (zM 9 34) ?_
 refine take_ (i := 0) (N := some 5) (v := ?_) (a' := ?_) (zM 9 35) rfl rfl (take_ofW HT_.out HW_.out (by kernel_rfl)) (fun _ _ _ h => h) (Or.inl ⟨by rfl, ?_⟩) hHeld ?_ ?_; rotate_left
 ·rintro w' ⟨s0, s1, s2⟩; exact zzT
 rotate_left
 ·exact zzS
 refine take_ (i := 2) (N := some 7) (v := ?_) (a' := ?_) (zM 9 39) rfl rfl (take_ofW HT_.out HW_.out (by kernel_rfl)) (fun _ _ _ h => h) (Or.inl ⟨by rfl, ?_⟩) hHeld ?_ ?_; rotate_left
 ·rintro w' ⟨s0, s1, s2⟩; exact zzT
 rotate_left
 ·exact zzS
 refine take_ (i := 6) (N := some 11) (v := ?_) (a' := ?_) (zM 9 103) rfl rfl (take_ofW HT_.out HW_.out (by kernel_rfl)) (fun _ _ _ h => h) (Or.inl ⟨by rfl, ?_⟩) hHeld ?_ ?_; rotate_left
 ·rintro w' ⟨s0, s1, s2⟩; exact zzT
 rotate_left
 ·exact zzS
 refine one_ (i := 3) (N := some 8) (zM 9 111) rfl rfl (one_of HT_.out (by kernel_rfl)) (by decide) (fun K hK => ?_); refine goes_ Try.func89 (by kernel_rfl) rfl #[.agg #[.int .i64 a0, .slice A0 es.length c0], .slice Ax x.length cx, .int .i64 q] (by rfl) rfl rfl zz34 ?_; refine (impl_burn.calls k a0 _ _ es _ _ x q r _ HE1.out HC.out HX1.out HCX.out HH.out).mono ?_; rintro e w2 ⟨v2, rfl, hR, hb⟩; obtain ⟨Ar, cr, er⟩ := Kd.R_slice hR; subst er; have HB2 := Aside0.mk (below_step HB1.out hb); have HG2 := Aside0.mk (blk_below HG1.out hb); have D0 := Aside0.mk (blk_below DN.out hb); clear hR hb; refine ⟨_, rfl, ?_⟩; refine hK.out _ _ ⟨(blk_cell HG2.out 0).trans rfl, (blk_cell HG2.out 1).trans rfl, (blk_cell D0.out 0).trans rfl⟩ (fun hHeld => ?_); clear hK K; refine norm_ (a' := ?_) ?_ ?_; rotate_left
 ·show Act.put _ (some 8) _ = _; exact zzS
 refine zQ 4 9 (zM 9 127) ?_
 refine zQ 7 12 (zM 9 255) ?_
 refine zQ 8 4 (zM 9 511) ?_
 refine done_ (done_of HT_.out (by kernel_rfl)) ?_; (try go_wp2); go_ret; exact ⟨rfl, HB2.out⟩
theorem impl_reducedAt.idx (k : Nat) (a0 q : Int) (es : List S57) (A0 : Option Addr) (c0 bg bq g cap : Nat) (ok : Nat → Prop) (f : Nat → Nat) (cur : Array Value) (rows : List (List Int)) (w0 w : World) (hE : Kd.C k57 w0 A0 es.length es) (hc0 : es.length ≤ c0) (hI : impl_reducedAt.Ctx a0 q es A0 c0 bg bq g cap ok f cur rows w0 w) (hl : rows.length ≤ 1000000000) (hcap : rows.length ≤ cap) (hP : ∀ x ∈ rows, (impl_burn.f k a0 es x q).isSome = true) :
  Calls Try.prog 122 #[.slice (some ⟨g, 0, none⟩) rows.length cap, .func (.func 88) #[] #[.pointer (some ⟨bg, 0, none⟩), .pointer (some ⟨bq, 0, none⟩)]] w fun e w' => Below w.heap.size w w' ∧ ((e = .returned (.int .i64 (-1)) ∧ ∀ x ∈ rows, impl_reducedAt.pr k a0 es q x = false) ∨ ∃ i : Nat, e = .returned (.int .i64 (i : Int)) ∧ i < rows.length ∧ (∀ j, (h : j < rows.length) → j < i → impl_reducedAt.pr k a0 es q rows[j] = false) ∧ ∀ h : i < rows.length, impl_reducedAt.pr k a0 es q rows[i] = true) := by
 have HE := Aside0.mk hE; have HC := Aside0.mk hc0; have HI := Aside0.mk hI; have HL := Aside0.mk hl; have HCAP := Aside0.mk hcap; have HP := Aside0.mk hP; clear hE hc0 hI hl hcap hP; go_enter Try.func122, Try.ntmps122; go_wp2; (go_loopw [8] (fun v8 wr => ∃ i : Nat, v8 = .int .i64 (i : Int) ∧ Aside0 (i ≤ rows.length) ∧ Aside0 (impl_reducedAt.Ctx a0 q es A0 c0 bg bq g cap ok f cur rows w0 wr) ∧ Aside0 (Below w.heap.size w wr) ∧ Aside0 (∀ j, (h : j < rows.length) → j < i → impl_reducedAt.pr k a0 es q rows[j] = false)) (fun v _ => rows.length - (intOf v).toNat)); case atStart => exact ⟨0, rfl, ⟨Nat.zero_le _⟩, HI, ⟨Below.refl _ _⟩, ⟨fun j _ h => absurd h (by omega)⟩⟩
 case round =>
  obtain ⟨i, rfl, HIL, HIr, HBr, HF⟩ := hrel; by_cases hlt : i < rows.length; rotate_left
  ·have d0 : decide ((i : Int) < (rows.length : Int)) = false := decide_eq_false (by omega); have d1 : decide (i < rows.length) = false := decide_eq_false hlt; (have hi : i = rows.length := by have := HIL.out; omega); clear hlt; go_wp2; go_ret; refine ⟨HBr.out, Or.inl ⟨rfl, fun x hx => ?_⟩⟩; obtain ⟨j, hj, rfl⟩ := List.getElem_of_mem hx; exact HF.out j hj (by omega)
  have d0 : decide ((i : Int) < (rows.length : Int)) = true := decide_eq_true (by omega); have d1 : decide (i < rows.length) = true := decide_eq_true hlt; (have p1 : (0 : Int) ≤ (i : Int) := by omega); (have p2 : (i : Int) < (rows.length : Int) := by omega); (have hib : (i : Int) ≤ 1000000000 := by have := HL.out; omega); obtain ⟨Ai, ci, hcur, hRi⟩ := HIr.out.row hlt; have hcell : wr.cell? ⟨g, i, none⟩ = some (.slice Ai rows[i].length ci) := (blk_cell HIr.out.hc i).trans hcur; obtain ⟨r, hr⟩ := Option.isSome_iff_exists.1 (HP.out _ (List.getElem_mem hlt)); have HRR := Aside0.mk hr; have HRi := Aside0.mk (Kd.R_reads' hRi); have HLT := Aside0.mk hlt; clear hcur hRi hr; generalize hx : rows[i]'HLT.out = x at hcell HRR HRi; have HXX := Aside0.mk hx; clear hx hlt; (go_wp2_with fail); refine (impl_reducedAt.clo k a0 q es A0 c0 bg bq _ (Kd.C_below HE.out HIr.out.hb) HC.out HIr.out.hg HIr.out.hq _ _ x r HRi.out.2.2 HRi.out.2.1 HRR.out).mono ?_; rintro e w1 ⟨rfl, hb⟩; have HI1 := Aside0.mk (HIr.out.step hb); have HB1 := Aside0.mk (below_step HBr.out hb); clear hb hcell
  cases hp : impl_reducedAt.pr k a0 es q x with
  | true =>
   go_wp2; go_ret; exact ⟨HB1.out, Or.inr ⟨i, rfl, HLT.out, HF.out, fun h => by rw [HXX.out]; exact hp⟩⟩
  | false =>
   have HPP := Aside0.mk hp; clear hp; go_wp2; go_roundw
   case rel =>
    refine ⟨i + 1, by go_num, ⟨HLT.out⟩, HI1, HB1, ⟨fun j h hj => ?_⟩⟩; by_cases e : j = i
    ·subst e; rw [HXX.out]; exact HPP.out
    ·exact HF.out j h (by omega)
   case measure =>
    have := HLT.out; (simp [intOf]); omega
theorem impl_reducedAt.cutl {P : Program} (t e : TypeId) {i : TypeInfo} (ht : P.underlying t = some (.slice e)) (hi : P.info? e = some i) (hsz : i.size = 1) (g n c l : Nat) (hl : l ≤ n) (hc : l < c) : ∀ W : World, (Instr.slice t (.slice (some ⟨g, 0, none⟩) n c) (some (.int .i64 (l : Int))) none none).run P W = .ok (.slice (some ⟨g, l, none⟩) (n - l) (c - l)) W := by
 intro W; (have hel : P.elem t = e := by simp [Program.elem, ht]); (have hu : P.underlying t = some (.slice (P.elem t)) := by rw [hel]; exact ht); rw [run_slice_l W t (some ⟨g, 0, none⟩) n c hu .i64 (l : Int) (by omega) (by omega), hel]; (have hne : ¬ (c = l) := by omega); (simp [sizeOf, typeInfo, hi, hsz, sliced, Result.andThen, Addr.add, hne]); omega
theorem impl_reducedAt.cuth {P : Program} (t e : TypeId) {i : TypeInfo} (ht : P.underlying t = some (.slice e)) (hi : P.info? e = some i) (hsz : i.size = 1) (g n c h : Nat) (hc : h ≤ c) : ∀ W : World, (Instr.slice t (.slice (some ⟨g, 0, none⟩) n c) none (some (.int .i64 (h : Int))) none).run P W = .ok (.slice (some ⟨g, 0, none⟩) h c) W := by
 intro W; (have hel : P.elem t = e := by simp [Program.elem, ht]); (have hu : P.underlying t = some (.slice (P.elem t)) := by rw [hel]; exact ht); rw [run_slice_h W t (some ⟨g, 0, none⟩) n c hu .i64 (h : Int) (by omega) (by omega), hel]; simp [sizeOf, typeInfo, hi, hsz, sliced, Result.andThen, Addr.add]
theorem impl_reducedAt.del (k : Nat) (a0 q : Int) (es : List S57) (A0 : Option Addr) (c0 bg bq g cap : Nat) (ok : Nat → Prop) (f : Nat → Nat) (cur : Array Value) (rows : List (List Int)) (w0 w : World) (hE : Kd.C k57 w0 A0 es.length es) (hc0 : es.length ≤ c0) (hI : impl_reducedAt.Ctx a0 q es A0 c0 bg bq g cap ok f cur rows w0 w) (hl : rows.length ≤ 1000000000) (hcap : rows.length ≤ cap) (hP : ∀ x ∈ rows, (impl_burn.f k a0 es x q).isSome = true) (hcs : cur.size = cap) (hcm : cap ≤ maxLen) (hbg : w0.heap.size ≤ g) (hok : ∀ k_, ok k_ → k_ ≠ g) (hne : bg ≠ g ∧ bq ≠ g) :
  Calls Try.prog 87 #[.slice (some ⟨g, 0, none⟩) rows.length cap, .func (.func 88) #[] #[.pointer (some ⟨bg, 0, none⟩), .pointer (some ⟨bq, 0, none⟩)]] w fun e w' => ∃ v : Value, e = .returned v ∧ Kd.S (Kd.slice 3 (Kd.int .i64)) 26 w' w0.heap.size (fun k_ => ok k_ ∨ k_ = g) v (rows.filter fun x => !impl_reducedAt.pr k a0 es q x) ∧ Below w0.heap.size w0 w' := by
 have hidx := impl_reducedAt.idx k a0 q es A0 c0 bg bq g cap ok f cur rows w0 w hE hc0 hI hl hcap hP; have HE := Aside0.mk hE; have HC := Aside0.mk hc0; have HI := Aside0.mk hI; have HL := Aside0.mk hl; have HCAP := Aside0.mk (show rows.length ≤ cap ∧ cur.size = cap ∧ cap ≤ maxLen from ⟨hcap, hcs, hcm⟩); have HP := Aside0.mk hP; have HBG := Aside0.mk hbg; have HOK := Aside0.mk hok; have HNE := Aside0.mk hne; have HIDX := Aside0.mk hidx; (have hnb : (rows.length : Int) ≤ 1000000000 := by omega); clear hE hc0 hI hl hcap hP hcs hcm hbg hok hne hidx; go_enter Try.func87, Try.ntmps87; (go_wp2_with fail); refine HIDX.out.mono ?_; rintro e w1 ⟨hb, hcase⟩; have HI1 := Aside0.mk (HI.out.step hb); clear hb HIDX; rcases hcase with ⟨rfl, hall⟩ | ⟨i0, rfl, hi0, hbef, hat⟩
 ·have HALL := Aside0.mk hall; clear hall; go_wp2; go_ret; (have ef : (rows.filter fun x => !impl_reducedAt.pr k a0 es q x) = rows := List.filter_eq_self.2 fun x hx => by rw [HALL.out x hx]; rfl); rw [ef]; refine ⟨_, rfl, Kd.S_mono (Cf.heads_S (ok := fun k_ => ok k_ ∨ k_ = g) (f := f) HBG.out (Or.inr rfl) HCAP.out.1 HCAP.out.2.2 HCAP.out.2.1 HI1.out.hc ?_) (fun k_ h => h), HI1.out.hb⟩; intro j x i hj; obtain ⟨v, hv, hR⟩ := HI1.out.hH j x i hj; exact ⟨v, hv, Kd.R_mono hR fun k_ h => ⟨Or.inl h.1, h.2⟩⟩
 ·have c0_ : ((i0 : Int) == -1) = false := beq_eq_false_iff_ne.2 (by omega); have c1_ : decide ((i0 : Int) = -1) = false := decide_eq_false (by omega); obtain ⟨jn, ej⟩ : ∃ x : Int, wrap64 ((i0 : Int) + 1) = x := ⟨_, rfl⟩; have ejw : IntKind.i64.wrap ((i0 : Int) + 1) = jn := (i64_w _).trans ej; have HJN := Aside0.mk (show jn = ((i0 + 1 : Nat) : Int) from by rw [← ej]; unfold wrap64; omega); have HI0 := Aside0.mk hi0; have HBEF := Aside0.mk hbef; have HAT := Aside0.mk (hat HI0.out); clear hi0 hbef hat; go_wp2; go_loopw [5, 6, 7] (fun v5 v6 v7 wr => ∃ (i j : Nat) (cr : Array Value), v5 = .int .i64 (i : Int) ∧ v6 = .int .i64 (j : Int) ∧ Aside0 (i < j ∧ j ≤ rows.length ∧ (Cf.keptZ (impl_reducedAt.pr k a0 es q) rows j).length = i) ∧ Aside0 (cr.size = cap ∧ wr.heap[g]? = some (.cells cr 26 (0, 0))) ∧ Aside0 (Cf.Heads wr w0.heap.size ok f cr (Cf.keptZ (impl_reducedAt.pr k a0 es q) rows j)) ∧ Aside0 (∀ t, t < rows.length → j ≤ t → cr[t]? = cur[t]?) ∧ Aside0 (Below w0.heap.size w0 wr ∧ wr.heap[bg]? = some (.cells #[.int .i64 a0, .slice A0 es.length c0] 25 (0, 0)) ∧ wr.heap[bq]? = some (.cells #[.int .i64 q] 3 (0, 0))) ∧ Aside0 (Cf.Heads wr w0.heap.size ok f cur rows.zipIdx)) (fun _ v _ _ => rows.length - (intOf v).toNat)
  case atStart =>
   (have hz : (Cf.keptZ (impl_reducedAt.pr k a0 es q) rows (i0 + 1)) = rows.zipIdx.take i0 := by rw [Cf.keptZ_succ _ HI0.out, if_pos HAT.out, List.append_nil]; exact Cf.keptZ_pre _ rows (Nat.le_of_lt HI0.out) HBEF.out); refine ⟨i0, i0 + 1, cur, rfl, by rw [HJN.out], ⟨by omega, HI0.out, ?_⟩, ⟨HCAP.out.2.1, HI1.out.hc⟩, ⟨?_⟩, ⟨fun t _ _ => rfl⟩, ⟨HI1.out.hb, HI1.out.hg, HI1.out.hq⟩, ⟨HI1.out.hH⟩⟩
   ·rw [hz, List.length_take, List.length_zipIdx]; have := HI0.out; omega
   ·rw [hz]; exact Cf.heads_take HI1.out.hH _
  case round =>
   clear HI1; obtain ⟨i, j, cr, rfl, rfl, HIJ, HCR, HZ, HT, HB, HH⟩ := hrel; (have hij : (i : Int) < (j : Int) := by have := HIJ.out; omega); (have hi0 : (0 : Int) ≤ (i : Int) := by omega); by_cases hlt : j < rows.length; rotate_left
   ·have d0 : decide ((j : Int) < (rows.length : Int)) = false := decide_eq_false (by omega); have d1 : decide (j < rows.length) = false := decide_eq_false hlt; (have hjn : j = rows.length := by have := HIJ.out; omega); (have hin : i < rows.length := by have := HIJ.out; omega); (have hic : i < cap := by have := HCAP.out.1; omega); (have hil : i ≤ cap := by omega); obtain ⟨it, hit, hzt, hszt, hbt⟩ := info_parts info26; have hcutl := impl_reducedAt.cutl (P := Try.prog) 34 26 Try.underlying34 hit hszt g rows.length cap i (Nat.le_of_lt hin) hic; have hcuth := impl_reducedAt.cuth (P := Try.prog) 34 26 Try.underlying34 hit hszt g rows.length cap i hil; (have hcl : ∀ ty, (Builtin.clear_ #[34] ty #[.slice (some ⟨g, i, none⟩) (rows.length - i) (cap - i)]).run Try.prog wr = .ok (.tuple #[]) (wr.setCells g i (List.replicate (rows.length - i) (.slice none 0 0))) := fun ty => Lib.run_clear_slice wr _ _ ty _ Try.underlying34 Try.zeroValue26 rfl rfl g i _ _ (by omega) (fun t ht => by rw [blk_cell HCR.out.2, Array.getElem?_eq_getElem (show i + t < cr.size by have := HCR.out.1; have := HCAP.out.1; omega)]; rfl) (fun t ht => blk_frozen HCR.out.2 _)); have HJ := Aside0.mk hjn; have HIN := Aside0.mk hin; clear hlt hit hzt hszt hbt hjn; go_wp2; go_ret; obtain ⟨cu2, hc2, hs2, ht2⟩ := setCells_row (List.replicate (rows.length - i) (Value.slice none 0 0)) i wr cr HCR.out.2 (by rw [List.length_replicate]; have := HCR.out.1; have := HCAP.out.1; have := HIN.out; omega); (have hfar : ∀ k_, k_ ≠ g → (wr.setCells g i (List.replicate (rows.length - i) (Value.slice none 0 0))).heap[k_]? = wr.heap[k_]? := fun k_ hk => setCells_far _ i k_ hk); obtain ⟨s1, s2, s3, s4⟩ := setCells_same g (List.replicate (rows.length - i) (Value.slice none 0 0)) i wr; (have hlen : (rows.filter fun x => !impl_reducedAt.pr k a0 es q x).length = i := by rw [← Cf.keptZ_all, List.length_map, ← HJ.out]; exact HIJ.out.2.2); have hZ := HZ.out; rw [HJ.out] at hZ; have hK := Cf.kept_S (w := wr.setCells g i (List.replicate (rows.length - i) (Value.slice none 0 0))) (base := w0.heap.size) (g := g) (cap := cap) (ok := fun k_ => ok k_ ∨ k_ = g) (f := f) (cur := cu2) (rows := rows) (p := impl_reducedAt.pr k a0 es q) HBG.out (Or.inr rfl) HCAP.out.1 HCAP.out.2.2 (hs2.trans HCR.out.1) hc2 ?hh
    case hh =>
     have hcells : ∀ t, t < (Cf.keptZ (impl_reducedAt.pr k a0 es q) rows rows.length).length → cu2[t]? = cr[t]? := by
      intro t ht; (have hti : t < i := by have h_ := HIJ.out.2.2; rw [HJ.out] at h_; omega); rw [← Array.getElem?_toList, ← Array.getElem?_toList, ht2, List.append_assoc, List.getElem?_append_left (by rw [List.length_take, Array.length_toList]; have := HCR.out.1; have := HCAP.out.1; have := HIN.out; omega), List.getElem?_take, if_pos hti]
     have h1 := Cf.heads_cells hZ hcells; (have h2 := Cf.heads_step (w1 := wr.setCells g i (List.replicate (rows.length - i) (Value.slice none 0 0))) h1 fun k_ h _ => hfar k_ (HOK.out k_ h)); intro t x u ht; obtain ⟨v, hv, hR⟩ := h2 t x u ht; exact ⟨v, hv, Kd.R_mono hR fun k_ h => ⟨Or.inl h.1, h.2⟩⟩
    rw [hlen] at hK; refine ⟨_, rfl, hK, ⟨s1.trans HB.out.1.os, s2.trans HB.out.1.tape, s3.trans HB.out.1.output, by rw [s4]; exact HB.out.1.size, fun k_ hk => (hfar k_ (by have := HBG.out; omega)).trans (HB.out.1.block k_ hk)⟩⟩
   have d0 : decide ((j : Int) < (rows.length : Int)) = true := decide_eq_true (by omega); have d1 : decide (j < rows.length) = true := decide_eq_true hlt; (have p1 : (0 : Int) ≤ (j : Int) := by omega); (have p2 : (j : Int) < (rows.length : Int) := by omega); (have p3 : (i : Int) < (rows.length : Int) := by omega); obtain ⟨v, hv, hR⟩ := HH.out j rows[j] j (by rw [List.getElem?_zipIdx, List.getElem?_eq_getElem hlt, Nat.zero_add]; rfl); obtain ⟨Ai, ci, ei⟩ := Kd.R_slice hR; subst ei; have hcell : wr.cell? ⟨g, j, none⟩ = some (.slice Ai rows[j].length ci) := (blk_cell HCR.out.2 j).trans ((HT.out j hlt (Nat.le_refl _)).trans hv); obtain ⟨r, hr⟩ := Option.isSome_iff_exists.1 (HP.out _ (List.getElem_mem hlt)); have HRR := Aside0.mk hr; have HRi := Aside0.mk (Kd.R_reads' hR); have HRX := Aside0.mk hR; have HLT := Aside0.mk hlt; clear hv hR hr; generalize hx : rows[j]'HLT.out = x at hcell HRR HRi HRX; have HXX := Aside0.mk hx; clear hx hlt; (go_wp2_with fail); refine (impl_reducedAt.clo k a0 q es A0 c0 bg bq _ (Kd.C_below HE.out HB.out.1) HC.out HB.out.2.1 HB.out.2.2 _ _ x r HRi.out.2.2 HRi.out.2.1 HRR.out).mono ?_; rintro e w2 ⟨rfl, hb⟩; have HCR2 := Aside0.mk (show cr.size = cap ∧ w2.heap[g]? = some (.cells cr 26 (0, 0)) from ⟨HCR.out.1, blk_below HCR.out.2 hb⟩); have HZ2 := Aside0.mk (Cf.heads_step HZ.out fun k_ _ hlt => hb.block k_ hlt); have HH2 := Aside0.mk (Cf.heads_step HH.out fun k_ _ hlt => hb.block k_ hlt); have HB2 := Aside0.mk (show Below w0.heap.size w0 w2 ∧ w2.heap[bg]? = some (.cells #[.int .i64 a0, .slice A0 es.length c0] 25 (0, 0)) ∧ w2.heap[bq]? = some (.cells #[.int .i64 q] 3 (0, 0)) from ⟨below_step HB.out.1 hb, blk_below HB.out.2.1 hb, blk_below HB.out.2.2 hb⟩); have HRX2 := Aside0.mk (Kd.R_below HRX.out hb); clear hb hcell HCR HZ HH HB HRX
   cases hp : impl_reducedAt.pr k a0 es q x with
   | true =>
    have HPP := Aside0.mk hp; clear hp; go_wp2; go_roundw
    case rel =>
     (have hz : (Cf.keptZ (impl_reducedAt.pr k a0 es q) rows (j + 1)) = (Cf.keptZ (impl_reducedAt.pr k a0 es q) rows j) := by rw [Cf.keptZ_succ _ HLT.out, HXX.out, if_pos HPP.out, List.append_nil]); refine ⟨i, j + 1, cr, rfl, by go_num, ⟨by have := HIJ.out; omega, HLT.out, by rw [hz]; exact HIJ.out.2.2⟩, HCR2, ⟨by rw [hz]; exact HZ2.out⟩, ⟨fun t h1 h2 => HT.out t h1 (by omega)⟩, HB2, HH2⟩
    case measure =>
     have := HLT.out; (simp [intOf]); omega
   | false =>
    have HPP := Aside0.mk hp; clear hp; obtain ⟨old, hold⟩ : ∃ old, cr[i]? = some old := ⟨_, Array.getElem?_eq_getElem (show i < cr.size by have := HIJ.out; have := HCR2.out.1; have := HCAP.out.1; omega)⟩; have hzi : w2.cell? ⟨g, i, none⟩ = some old := (blk_cell HCR2.out.2 i).trans hold; have hfz := blk_frozen HCR2.out.2 i; clear hold; go_wp2; go_roundw
    case rel =>
     clear hzi hfz; (have hz : (Cf.keptZ (impl_reducedAt.pr k a0 es q) rows (j + 1)) = (Cf.keptZ (impl_reducedAt.pr k a0 es q) rows j) ++ [(x, j)] := by rw [Cf.keptZ_succ _ HLT.out, HXX.out, if_neg (by rw [HPP.out]; simp)]); (have hset : ∀ k_, ok k_ → k_ < w2.heap.size → (w2.setCell ⟨g, i, none⟩ (.slice Ai x.length ci)).heap[k_]? = w2.heap[k_]? := fun k_ h _ => Below.heap_setCell w2 _ _ k_ (HOK.out k_ h)); refine ⟨i + 1, j + 1, cr.setIfInBounds i (.slice Ai x.length ci), by go_num, by go_num, ⟨by have := HIJ.out; omega, HLT.out, by rw [hz, List.length_append, HIJ.out.2.2]; rfl⟩, ⟨by rw [Array.size_setIfInBounds]; exact HCR2.out.1, blk_set HCR2.out.2 i _⟩, ⟨?_⟩, ⟨fun t h1 h2 => ?_⟩, ⟨below_set HB2.out.1 HBG.out, blk_far HB2.out.2.1 HNE.out.1 _, blk_far HB2.out.2.2 HNE.out.2 _⟩, ⟨Cf.heads_step HH2.out hset⟩⟩
     ·rw [hz]; have h1 := Cf.heads_push HZ2.out (v := .slice Ai x.length ci) (x := x) (t := j) (by have := HIJ.out; have := HCR2.out.1; have := HCAP.out.1; omega) HRX2.out; rw [HIJ.out.2.2] at h1; exact Cf.heads_step h1 hset
     ·rw [Array.getElem?_setIfInBounds_ne (by have := HIJ.out; omega)]; exact HT.out t h1 (by omega)
    case measure =>
     have := HLT.out; (simp [intOf]); omega
def impl_reducedAt.cnt (k : Nat) (a0 : Int) (es : List S57) (q : Int) (v : Nat) : Nat := if (v : Int) = q then 1 else ((impl_Valence.f k a0 es (v : Int)).getD 0).toNat
abbrev impl_reducedAt.ok0 (k : Nat) (a0 : Int) (es : List S57) (q : Int) : Prop := (0 ≤ a0 ∧ a0 ≤ 6) ∧ ∀ v, v < a0.toNat → (impl_Valence.f k a0 es (v : Int)).isSome = true ∧ 0 ≤ (impl_Valence.f k a0 es (v : Int)).getD 0 ∧ (impl_Valence.f k a0 es (v : Int)).getD 0 ≤ 24
abbrev impl_reducedAt.ok1 (k : Nat) (a0 : Int) (es : List S57) (q : Int) : Prop := ∀ x ∈ Cf.boxL (impl_reducedAt.cnt k a0 es q) a0.toNat, (impl_burn.f k a0 es x q).isSome = true
def impl_reducedAt.f (k : Nat) (a0 : Int) (es : List S57) (q : Int) : Option (List (List Int)) := if impl_reducedAt.ok0 k a0 es q ∧ impl_reducedAt.ok1 k a0 es q ∧ 0 < (Cf.boxL (impl_reducedAt.cnt k a0 es q) a0.toNat).length then some ((Cf.boxL (impl_reducedAt.cnt k a0 es q) a0.toNat).filter fun x => !impl_reducedAt.pr k a0 es q x) else none
theorem impl_reducedAt.val_up (k : Nat) {a0 : Int} {es : List S57} {v : Int} (h : (impl_Valence.f k a0 es v).isSome = true) : impl_Valence.f (k + 1) a0 es v = impl_Valence.f k a0 es v := by
 obtain ⟨b, hb⟩ := Option.isSome_iff_exists.1 h; rw [hb, impl_Valence.mono _ _ _ k _ hb]
theorem impl_reducedAt.burn_up (k : Nat) {a0 q : Int} {es : List S57} {x : List Int} (h : (impl_burn.f k a0 es x q).isSome = true) : impl_burn.f (k + 1) a0 es x q = impl_burn.f k a0 es x q := by
 obtain ⟨b, hb⟩ := Option.isSome_iff_exists.1 h; rw [hb, impl_burn.mono _ _ _ _ k _ hb]
theorem impl_reducedAt.box_congr {c d : Nat → Nat} : ∀ {n : Nat}, (∀ v, v < n → c v = d v) → Cf.boxL c n = Cf.boxL d n
 | 0, _ => rfl
 | n + 1, h => by rw [Cf.boxL, Cf.boxL, impl_reducedAt.box_congr fun v hv => h v (by omega), h n (by omega)]
theorem impl_reducedAt.mono : ∀ a0 a1 a2 k, LeO (impl_reducedAt.f k a0 a1 a2) (impl_reducedAt.f (k + 1) a0 a1 a2) := by
 intro a0 es q k r h; unfold impl_reducedAt.f at h ⊢; (split at h); (case isFalse => cases h); rename_i hc; (have e1 : Cf.boxL (impl_reducedAt.cnt (k + 1) a0 es q) a0.toNat = Cf.boxL (impl_reducedAt.cnt k a0 es q) a0.toNat := impl_reducedAt.box_congr fun v hv => by unfold impl_reducedAt.cnt; rw [impl_reducedAt.val_up k (hc.1.2 v hv).1]); have h0 : impl_reducedAt.ok0 (k + 1) a0 es q := ⟨hc.1.1, fun v hv => by rw [impl_reducedAt.val_up k (hc.1.2 v hv).1]; exact hc.1.2 v hv⟩; (have h1 : impl_reducedAt.ok1 (k + 1) a0 es q := by unfold impl_reducedAt.ok1; rw [e1]; exact fun x hx => by rw [impl_reducedAt.burn_up k (hc.2.1 x hx)]; exact hc.2.1 x hx); rw [if_pos ⟨h0, h1, by rw [e1]; exact hc.2.2⟩, ← h, e1]; (congr 1); (refine List.filter_congr fun x hx => ?_); unfold impl_reducedAt.pr; rw [impl_reducedAt.burn_up k (hc.2.1 x hx)]
theorem impl_reducedAt.calls (k : Nat) (aD : Int) (aH : Option Addr) (aG : Nat) (aC : List S57) (a1 : Int) (r : List (List Int)) (w : World) (hr0_1 : Kd.C k57 w aH aC.length aC) (hc0_1 : aC.length ≤ aG) (h : impl_reducedAt.f k aD aC a1 = some r) :
  Calls Try.prog 49 #[.agg #[.int .i64 aD, .slice aH aC.length aG], .int .i64 a1] w fun e w' => ∃ v0_ : Value, e = .returned (v0_) ∧ Kd.S (Kd.slice 3 (Kd.int .i64)) 26 w' w.heap.size (fun _ => True) v0_ r ∧ Below w.heap.size w w' := by
 have hu25 := Try.underlying25; have HE := zK_ hr0_1; have HC := zK_ hc0_1; clear hr0_1 hc0_1; unfold impl_reducedAt.f at h; (split at h); (case isFalse => cases h); rename_i hc; obtain rfl := Option.some.inj h; clear h; obtain ⟨⟨⟨hn0, hn6⟩, hv⟩, hbn, hpos⟩ := hc; obtain ⟨n, rfl⟩ := Int.eq_ofNat_of_zero_le hn0; unfold impl_reducedAt.ok1 at hbn; rw [Int.toNat_natCast] at hv hbn hpos ⊢; have HPOS := zK_ hpos; clear hpos; have HV := zK_ hv; have HBN := zK_ hbn; have HN := zK_ (show n ≤ 6 from by omega); (have hcb : ∀ u, u < n → impl_reducedAt.cnt k (n : Int) aC a1 u ≤ 24 := fun u hu => by unfold impl_reducedAt.cnt; split; omega; have := (hv u hu).2.2; omega); (have hln : ∀ v, v ≤ n → (Cf.boxL (impl_reducedAt.cnt k (n : Int) aC a1) v).length ≤ 191102976 := fun v hv => Nat.le_trans (Cf.boxL_len (b := 24) fun u hu => hcb u (by omega)) (Nat.pow_le_pow_right (by omega) (show v ≤ 6 by omega))); (have hrow : ∀ v x, x ∈ Cf.boxL (impl_reducedAt.cnt k (n : Int) aC a1) v → x.length = v := fun v x hx => (Cf.boxL_row hx).1); have HCB := zK_ hcb; have HLN := zK_ hln; have HROW := zK_ hrow; (have hmf : ∀ (fn : Fn) (first cap : Array Value) (w : World), (Instr.makeFunc fn first cap).run Try.prog w = .ok (.func fn first cap) w := fun _ _ _ _ => rfl); have hnb : (n : Int) ≤ 6 := hn6; clear hn0 hn6 hv hbn hcb hln hrow; go_enter Try.func49, Try.ntmps49; (go_wp2_with (first | ((with_reducible refine gate_dst (N := 2) rfl ?_); refine box_event ?hg (N := 2) ?hd (cs := #[.int .i64 (n : Int), .slice aH aC.length aG]) (t := 25) ?hr ?_; (case hd => rfl); (case hg => rfl); (case hr => exact zz9); intro bg hg w1 hbox hb; have BG1 := zK_ hbox; have HGG := zK_ hg; have HB1 := zK_ hb; clear hg hbox hb) | ((with_reducible refine gate_dst (N := 3) rfl ?_); refine box_event ?hg (N := 3) ?hd (cs := #[.int .i64 a1]) (t := 3) ?hr ?_; (case hd => rfl); (case hg => rfl); (case hr => exact zz9); intro bq hg w2 hbox hb; have BQ2 := zK_ hbox; have HQG := zK_ hg; have BG2 := zK_ (blk_below BG1.out hb); have HB2 := zK_ (below_step HB1.out hb); clear hg hbox hb) | ((with_reducible refine gate_dst (N := 12) rfl ?_); refine Kd.S_lits (w0 := w2) (Kd.slice 3 (Kd.int .i64)) w2.heap.size 26 ?hg (N := 12) ?hd (xs := ([[]] : List (List Int))) (inner := [.slice none 0 0]) (ok := fun _ => True) (fun j k => j = 0) ?hr rfl ?hp (fun i j k hi hj => hi.trans hj.symm) (fun _ _ _ => trivial) trivial (Below.refl _ _) (Nat.le_refl _) (by simp) ?_; (case hd => rfl); (case hg => rfl); (case hr => exact zz9); (case hp => exact fun j x hx => match j, hx with | 0, rfl => Kd.M_row (Kd.R_nil _ _ _ _ _) | _ + 1, h_ => absurd h_ (by simp)); intro v12 w3 ho hb hg_ hnew_; have HS3 := zK_ ho; have HB3 := zK_ hb; clear ho hb hg_ hnew_))); have HBOX := zK_ (show bg < w2.heap.size ∧ bq < w2.heap.size from ⟨blk_lt BG2.out, blk_lt BQ2.out⟩); (go_loopw [5, 6] (fun v5 v6 wr => ∃ v : Nat, v6 = .int .i64 (v : Int) ∧ Aside0 (v ≤ n) ∧ Aside0 (Below w2.heap.size w2 wr) ∧ Aside0 (Kd.S (Kd.slice 3 (Kd.int .i64)) 26 wr w2.heap.size (fun _ => True) v5 (Cf.boxL (impl_reducedAt.cnt k (n : Int) aC a1) v))) (fun _ v _ => n - (intOf v).toNat)); case atStart => exact ⟨0, rfl, ⟨Nat.zero_le _⟩, HB3, HS3⟩
 case round =>
  clear HS3 HB3; obtain ⟨v, rfl, HVN, HBr, HSr⟩ := hrel; have hz0 : wr.cell? ⟨bg, 0, none⟩ = some (.int .i64 (n : Int)) := (blk_cell (blk_below BG2.out HBr.out) 0).trans rfl; have hz1 : wr.cell? ⟨bg, 1, none⟩ = some (.slice aH aC.length aG) := (blk_cell (blk_below BG2.out HBr.out) 1).trans rfl; (have hvb : (v : Int) ≤ 6 := by have := HVN.out; omega); by_cases hvn : v < n; rotate_left
  ·have c0_ : decide ((v : Int) < (n : Int)) = false := decide_eq_false (by omega); have c1_ : decide (v < n) = false := decide_eq_false hvn; (have hv : v = n := by have := HVN.out; omega); subst hv; clear hvn; obtain ⟨g, cap, eg, _⟩ := Kd.S_form HSr.out HPOS.out; subst eg; obtain ⟨f, cur, hbg, _, _, hncap, hcm, hcs, hc, hH⟩ := Cf.S_heads HSr.out; have hdel := impl_reducedAt.del k (v : Int) a1 aC aH aG bg bq g cap _ f cur _ w2 wr (Kd.C_below HE.out HB2.out) HC.out ⟨HBr.out, blk_below BG2.out HBr.out, blk_below BQ2.out HBr.out, hc, hH⟩ (Nat.le_trans (HLN.out v (Nat.le_refl _)) (by omega)) hncap HBN.out hcs hcm hbg (fun k_ h => h.2) ⟨by have := HBOX.out; omega, by have := HBOX.out; omega⟩; have HDEL := zK_ hdel; clear hdel hH hc hcs hcm hncap hbg; (go_wp2_with fail); refine HDEL.out.mono ?_; rintro e w9 ⟨v9, rfl, hS, hb⟩; obtain ⟨A9, c9, e9⟩ := Kd.S_slice hS; subst e9; have HS9 := zK_ hS; have HB9 := zK_ hb; clear hS hb hz0 hz1; go_wp2; go_ret; exact ⟨_, rfl, Kd.S_mono (Kd.S_lower HS9.out HB2.out.size) (fun _ _ => trivial), below_step HB2.out HB9.out⟩
  have c0_ : decide ((v : Int) < (n : Int)) = true := decide_eq_true (by omega); have c1_ : decide (v < n) = true := decide_eq_true hvn; obtain ⟨L, hL⟩ : ∃ L, Cf.boxL (impl_reducedAt.cnt k (n : Int) aC a1) v = L := ⟨_, rfl⟩; obtain ⟨A5, c5, e5⟩ := Kd.S_slice HSr.out; subst e5; have hS := HSr.out; rw [hL] at hS; have HLn := zK_ (show L.length ≤ 191102976 from by rw [← hL]; exact HLN.out v (by omega)); have HLR := zK_ (show ∀ x ∈ L, x.length = v from fun x hx => HROW.out v x (by rw [hL]; exact hx)); have HS := zK_ hS; have HLL := zK_ hL; rw [hL]; clear hS HSr; obtain ⟨hm0, hm1, hm2⟩ := HV.out v hvn; obtain ⟨m, hm⟩ := Option.isSome_iff_exists.1 hm0; rw [hm] at hm1 hm2; simp only [Option.getD_some] at hm1 hm2; have HM := zK_ hm; (have hcn : impl_reducedAt.cnt k (n : Int) aC a1 v = if (v : Int) = a1 then 1 else m.toNat := by unfold impl_reducedAt.cnt; rw [hm]; rfl); obtain ⟨m1, em⟩ : ∃ x : Int, wrap64 (m - 1) = x := ⟨_, rfl⟩; have emw : IntKind.i64.wrap (m - 1) = m1 := (i64_w _).trans em; have HM1 := zK_ (show m1 = m - 1 ∧ 0 ≤ m ∧ m ≤ 24 from ⟨by rw [← em]; unfold wrap64; omega, hm1, hm2⟩); have HVLT := zK_ hvn; clear hm hm0 hm1 hm2 hL hvn; (go_wp2_with fail); refine (impl_Valence.calls k (n : Int) _ _ aC (v : Int) m _ (Kd.C_below (Kd.C_below HE.out HB2.out) HBr.out) HC.out HM.out).mono ?_; rintro e w5 ⟨rfl, hb⟩; have HB5 := zK_ (below_step HBr.out hb); have HS5 := zK_ (Kd.S_mono (Kd.S_bound (Kd.S_below HS.out hb)) (ok' := fun k_ => k_ < w5.heap.size) fun k_ hk => hk.2.2.1); clear hb hz0 hz1 HS HBr; have hq0 : w5.cell? ⟨bq, 0, none⟩ = some (.int .i64 a1) := (blk_cell (blk_below BQ2.out HB5.out) 0).trans rfl; by_cases hvq : (v : Int) = a1
  ·have c4_ : ((v : Int) == a1) = true := beq_iff_eq.2 hvq; have hcn2 : impl_reducedAt.cnt k (n : Int) aC a1 v = impl_reducedAt.cnt k (n : Int) aC a1 v ∧ impl_reducedAt.cnt k (n : Int) aC a1 v = 1 := ⟨rfl, by rw [hcn, if_pos hvq]⟩; have HCN := zK_ (show impl_reducedAt.cnt k (n : Int) aC a1 v = 1 ∧ (1 : Nat) ≤ 24 from ⟨hcn2.2, by omega⟩); clear hcn hcn2 hvq; (try go_wp2); (go_loopw [8, 28] (fun v8 v28 wr => ∃ i : Nat, v28 = .int .i64 (i : Int) ∧ Aside0 (i ≤ L.length ∧ w5.heap.size ≤ wr.heap.size) ∧ Aside0 (Below w2.heap.size w2 wr) ∧ Aside0 (Kd.S (Kd.slice 3 (Kd.int .i64)) 26 wr w2.heap.size (fun k_ => k_ < w5.heap.size) (.slice A5 L.length c5) L) ∧ Aside0 (Kd.S (Kd.slice 3 (Kd.int .i64)) 26 wr w2.heap.size (fun k_ => w5.heap.size ≤ k_) v8 (Cf.outB 1 L i))) (fun _ v _ => L.length - (intOf v).toNat)); case atStart => exact ⟨0, rfl, ⟨Nat.zero_le _, Nat.le_refl _⟩, HB5, HS5, ⟨Kd.S_nil _ _ _ _ _⟩⟩
   case round =>
    clear HS5 hq0; obtain ⟨i, rfl, HI, HBr, HLr, HSn⟩ := hrel; by_cases hlt : i < L.length; rotate_left
    ·have c2_ : decide ((i : Int) < (L.length : Int)) = false := decide_eq_false (by omega); have c3_ : decide (i < L.length) = false := decide_eq_false hlt; (have hi : i = L.length := by have := HI.out; omega); subst hi; clear hlt; go_wp2; go_roundw
     case rel =>
      refine ⟨v + 1, by go_num, ⟨HVLT.out⟩, HBr, ⟨?_⟩⟩; have h1 := Cf.outB_all (impl_reducedAt.cnt k (n : Int) aC a1) v; rw [HLL.out, HCN.out.1] at h1; rw [← h1]; exact Kd.S_mono HSn.out fun _ _ => trivial
     case measure =>
      have := HVLT.out; (simp [intOf]); omega
    have c2_ : decide ((i : Int) < (L.length : Int)) = true := decide_eq_true (by omega); have c3_ : decide (i < L.length) = true := decide_eq_true hlt; obtain ⟨x, hxi⟩ : ∃ x, L[i]? = some x := ⟨_, List.getElem?_eq_getElem hlt⟩; (have hx : rd_L3 L (i : Int) = x := by unfold rd_L3; rw [Int.toNat_natCast, List.getD_eq_getElem?_getD, hxi]; rfl); (have p1 : (0 : Int) ≤ (i : Int) := by omega); (have p2 : (i : Int) < (L.length : Int) := by omega); obtain ⟨gL, _, _, eg, _, _, _⟩ := at_L3 (Kd.S_reads' HLr.out).2.2 (i : Int) p1 p2; subst eg; obtain ⟨cc, _, hM, hcell⟩ := Kd.S_get HLr.out ([] : List Int) (i : Int) p1 p2; obtain ⟨vx, hvx, hRx⟩ := hM; subst hvx; replace hcell := hcell 0 vx rfl; rw [show (L.getD ((i : Int)).toNat []) = x from hx] at hRx; (replace hRx := Kd.R_mono hRx (ok' := fun k_ => k_ < w5.heap.size) fun k_ hk => hk.1); obtain ⟨Ai, ci, ei⟩ := Kd.R_slice hRx; subst ei; rw [Int.toNat_natCast, show i * (Kd.slice 3 (Kd.int .i64)).sz + 0 = i from Nat.mul_one i] at hcell; have HRi := zK_ hRx; clear hRx; (have hib : (i : Int) ≤ 191102976 := by have := HLn.out; omega); have HLT := zK_ hlt; have HXI := zK_ hxi; have HXL := zK_ (show x.length = v from HLR.out x (List.mem_of_getElem? hxi)); (have hxl : (x.length : Int) ≤ 6 := by have := HXL.out; have := HVLT.out; have := HN.out; omega); have CP := zK_ (show impl_copyInts.f x = some x from by unfold impl_copyInts.f; rw [if_pos (by simp only [List.length_nil]; omega)]; rfl); clear hxi hlt hx; (try go_wp2); (go_loopw [8, 11] (fun v8 v11 wi => ∃ j : Nat, v11 = .int .i64 (j : Int) ∧ Aside0 (j ≤ 1 ∧ w5.heap.size ≤ wi.heap.size) ∧ Aside0 (Below w2.heap.size w2 wi) ∧ Aside0 (Kd.S (Kd.slice 3 (Kd.int .i64)) 26 wi w2.heap.size (fun k_ => k_ < w5.heap.size) (.slice (some gL) L.length c5) L) ∧ Aside0 (Kd.S (Kd.slice 3 (Kd.int .i64)) 26 wi w2.heap.size (fun k_ => w5.heap.size ≤ k_) v8 (Cf.outB 1 L i ++ Cf.extB j x)) ∧ Aside0 (Kd.R (Kd.int .i64) 3 wi w2.heap.size (fun k_ => k_ < w5.heap.size) (.slice Ai x.length ci) x)) (fun _ v _ => 1 - (intOf v).toNat)); case atStart => exact ⟨0, rfl, ⟨Nat.zero_le _, HI.out.2⟩, HBr, HLr, ⟨by rw [Cf.extB_zero, List.append_nil]; exact HSn.out⟩, HRi⟩
    case round =>
     obtain ⟨j, rfl, HJ, HBi, HLi, HSi, HRj⟩ := hrel; (have hjb : (j : Int) ≤ 24 := by have := HJ.out; have := HCN.out; omega); by_cases hj : j < 1
     ·(obtain rfl : j = 0 := by omega); have HJN := zK_ hj; clear hj; have HLA := zK_ (show (Cf.outB 1 L i ++ Cf.extB 0 x).length ≤ 5000000000 from by rw [List.length_append, Cf.extB_len]; have a1_ := Cf.outB_len 1 L i; have a2_ := HCN.out; have a3_ := HJ.out; have a4_ := Nat.mul_le_mul HLn.out (show 1 ≤ 24 by omega); omega); (go_wp2_with (first | ((with_reducible refine gate_callee (f := 86) rfl ?_); refine goesL_ (some 39) rfl rfl Try.func86 (by kernel_rfl) rfl #[.slice Ai x.length ci] rfl zz34 ?_; refine (impl_copyInts.calls _ _ x x _ (Kd.R_reads' HRj.out).2.2 (Kd.R_reads' HRj.out).2.1 CP.out).mono ?_; rintro e wA ⟨vA, rfl, hoA, hbA⟩; refine ⟨_, rfl, ?_⟩; have HOA := zK_ hoA; have HBA := zK_ hbA; clear hoA hbA) | ((with_reducible refine gate_builtin (b := .append) (xs := #[.tmp 39, .tmp 41]) rfl ?_); at_builtin; refine Kd.R_append (Kd.int .i64) (w0 := wr) wr.heap.size rfl (.tmp 39) (.tmp 41) 26 3 (.int .i64 0) 8 rfl Try.underlying26 info3 rfl (by decide) (by omega) vA x (0 : Int) [.int .i64 (0 : Int)] (fun _ => True) (fun _ => False) rfl rfl rfl (fun _ hk => hk.elim) (fun _ _ => trivial) HOA.out HBA.out (below_size HBA.out) (by have := hxl; omega) ?_; intro vC wC ho hb hg hat; obtain ⟨Ad, cd, ed⟩ := Kd.R_slice ho; subst ed; rw [show (x ++ [(0 : Int)]).length = x.length + 1 from List.length_append] at ho; have HD := zK_ (Kd.R_mono (Kd.R_bound ho) (ok' := fun k_ => wr.heap.size ≤ k_) fun k_ hk => hk.2.1); have HBC := zK_ hb; clear ho hb hg hat) | ((with_reducible refine gate_builtin (b := .append) (xs := #[.tmp 37, .tmp 43]) rfl ?_); at_builtin; refine Kd.S_append (Kd.slice 3 (Kd.int .i64)) (w0 := w2) w2.heap.size rfl (.tmp 37) (.tmp 43) 34 26 (.slice none 0 0) 24 rfl Try.underlying34 info26 rfl (by decide) (by omega) u8 (Cf.outB 1 L i ++ Cf.extB 0 x) (x ++ [(0 : Int)]) [.slice Ad (x.length + 1) cd] (fun k_ => w5.heap.size ≤ k_) (fun k_ => wr.heap.size ≤ k_) rfl rfl (Kd.M_row (Kd.R_lower HD.out (below_size HBi.out))) (fun k_ hk => ⟨by have := HJ.out; omega, fun e => by have := Kd.S_lt HSi.out k_ e.symm; omega⟩) (fun k_ hk => by have := HJ.out; have := HBC.out.size; omega) (Kd.S_mono (Kd.S_below (Kd.S_bound HSi.out) HBC.out) fun k_ hk => ⟨hk.1, fun h => by have := hk.2.2.1; omega⟩) (below_step HBi.out HBC.out) (below_size (below_step HBi.out HBC.out)) (by have := HLA.out; omega) ?_; intro vE wE ho hb hg hat; have HOE := zK_ ho; have HBE := zK_ hb; have HLE := zK_ (Kd.S_grown (Kd.S_below (Kd.S_bound HLi.out) HBC.out) hg fun k_ hk e => by have := HSi.out.choose_spec.1 k_ e.symm; have := hk.1; omega); have HZE := zK_ hg.size; have HRE := zK_ (Kd.R_step (Kd.R_below HRj.out HBC.out) fun k_ hk hlt => hg.block k_ hlt fun e => by have := HSi.out.choose_spec.1 k_ e.symm; omega); clear ho hb hg hat))); go_roundw
      case rel =>
       refine ⟨0 + 1, by go_num, ⟨by have := HJN.out; omega, by have := HBC.out.size; have := HZE.out; have := HJ.out; omega⟩, HBE, ⟨Kd.S_mono HLE.out fun k_ hk => hk.1⟩, ⟨?_⟩, HRE⟩; rw [Cf.extB_succ, ← List.append_assoc]; exact HOE.out
      case measure =>
       have := HJN.out; first | (simp [intOf]; done) | (simp [intOf]; omega)
     have hj2 := HJ.out; (have hjn : j = 1 := by have := HJ.out; omega); subst hjn; clear hj; go_wp2; go_roundw
     case rel =>
      refine ⟨i + 1, by go_num, ⟨by have := HLT.out; omega, HJ.out.2⟩, HBi, HLi, ⟨?_⟩⟩; rw [Cf.outB_succ _ HXI.out]; exact HSi.out
     case measure =>
      have := HLT.out; (simp [intOf]); omega
  have c4_ : ((v : Int) == a1) = false := beq_eq_false_iff_ne.2 hvq; have hcn2 : impl_reducedAt.cnt k (n : Int) aC a1 v = impl_reducedAt.cnt k (n : Int) aC a1 v ∧ ((impl_reducedAt.cnt k (n : Int) aC a1 v : Nat) : Int) = m1 + 1 ∧ m1 ≤ 23 := ⟨rfl, by rw [hcn, if_neg hvq]; have := HM1.out; omega, by have := HM1.out; omega⟩; have HCN0 := zK_ hcn2; obtain ⟨cn, hcn3⟩ : ∃ cn, impl_reducedAt.cnt k (n : Int) aC a1 v = cn := ⟨_, rfl⟩; have HCN := zK_ (show impl_reducedAt.cnt k (n : Int) aC a1 v = cn ∧ cn ≤ 24 ∧ (cn : Int) = m1 + 1 from ⟨hcn3, by have := HCN0.out.2; omega, by have := HCN0.out.2; omega⟩); clear hcn hcn2 hvq hcn3 HCN0; (try go_wp2); (go_loopw [8, 28] (fun v8 v28 wr => ∃ i : Nat, v28 = .int .i64 (i : Int) ∧ Aside0 (i ≤ L.length ∧ w5.heap.size ≤ wr.heap.size) ∧ Aside0 (Below w2.heap.size w2 wr) ∧ Aside0 (Kd.S (Kd.slice 3 (Kd.int .i64)) 26 wr w2.heap.size (fun k_ => k_ < w5.heap.size) (.slice A5 L.length c5) L) ∧ Aside0 (Kd.S (Kd.slice 3 (Kd.int .i64)) 26 wr w2.heap.size (fun k_ => w5.heap.size ≤ k_) v8 (Cf.outB cn L i))) (fun _ v _ => L.length - (intOf v).toNat)); case atStart => exact ⟨0, rfl, ⟨Nat.zero_le _, Nat.le_refl _⟩, HB5, HS5, ⟨Kd.S_nil _ _ _ _ _⟩⟩
  case round =>
   clear HS5 hq0; obtain ⟨i, rfl, HI, HBr, HLr, HSn⟩ := hrel; by_cases hlt : i < L.length; rotate_left
   ·have c2_ : decide ((i : Int) < (L.length : Int)) = false := decide_eq_false (by omega); have c3_ : decide (i < L.length) = false := decide_eq_false hlt; (have hi : i = L.length := by have := HI.out; omega); subst hi; clear hlt; go_wp2; go_roundw
    case rel =>
     refine ⟨v + 1, by go_num, ⟨HVLT.out⟩, HBr, ⟨?_⟩⟩; have h1 := Cf.outB_all (impl_reducedAt.cnt k (n : Int) aC a1) v; rw [HLL.out, HCN.out.1] at h1; rw [← h1]; exact Kd.S_mono HSn.out fun _ _ => trivial
    case measure =>
     have := HVLT.out; (simp [intOf]); omega
   have c2_ : decide ((i : Int) < (L.length : Int)) = true := decide_eq_true (by omega); have c3_ : decide (i < L.length) = true := decide_eq_true hlt; obtain ⟨x, hxi⟩ : ∃ x, L[i]? = some x := ⟨_, List.getElem?_eq_getElem hlt⟩; (have hx : rd_L3 L (i : Int) = x := by unfold rd_L3; rw [Int.toNat_natCast, List.getD_eq_getElem?_getD, hxi]; rfl); (have p1 : (0 : Int) ≤ (i : Int) := by omega); (have p2 : (i : Int) < (L.length : Int) := by omega); obtain ⟨gL, _, _, eg, _, _, _⟩ := at_L3 (Kd.S_reads' HLr.out).2.2 (i : Int) p1 p2; subst eg; obtain ⟨cc, _, hM, hcell⟩ := Kd.S_get HLr.out ([] : List Int) (i : Int) p1 p2; obtain ⟨vx, hvx, hRx⟩ := hM; subst hvx; replace hcell := hcell 0 vx rfl; rw [show (L.getD ((i : Int)).toNat []) = x from hx] at hRx; (replace hRx := Kd.R_mono hRx (ok' := fun k_ => k_ < w5.heap.size) fun k_ hk => hk.1); obtain ⟨Ai, ci, ei⟩ := Kd.R_slice hRx; subst ei; rw [Int.toNat_natCast, show i * (Kd.slice 3 (Kd.int .i64)).sz + 0 = i from Nat.mul_one i] at hcell; have HRi := zK_ hRx; clear hRx; (have hib : (i : Int) ≤ 191102976 := by have := HLn.out; omega); have HLT := zK_ hlt; have HXI := zK_ hxi; have HXL := zK_ (show x.length = v from HLR.out x (List.mem_of_getElem? hxi)); (have hxl : (x.length : Int) ≤ 6 := by have := HXL.out; have := HVLT.out; have := HN.out; omega); have CP := zK_ (show impl_copyInts.f x = some x from by unfold impl_copyInts.f; rw [if_pos (by simp only [List.length_nil]; omega)]; rfl); clear hxi hlt hx; (try go_wp2); (go_loopw [8, 11] (fun v8 v11 wi => ∃ j : Nat, v11 = .int .i64 (j : Int) ∧ Aside0 (j ≤ cn ∧ w5.heap.size ≤ wi.heap.size) ∧ Aside0 (Below w2.heap.size w2 wi) ∧ Aside0 (Kd.S (Kd.slice 3 (Kd.int .i64)) 26 wi w2.heap.size (fun k_ => k_ < w5.heap.size) (.slice (some gL) L.length c5) L) ∧ Aside0 (Kd.S (Kd.slice 3 (Kd.int .i64)) 26 wi w2.heap.size (fun k_ => w5.heap.size ≤ k_) v8 (Cf.outB cn L i ++ Cf.extB j x)) ∧ Aside0 (Kd.R (Kd.int .i64) 3 wi w2.heap.size (fun k_ => k_ < w5.heap.size) (.slice Ai x.length ci) x)) (fun _ v _ => cn - (intOf v).toNat)); case atStart => exact ⟨0, rfl, ⟨Nat.zero_le _, HI.out.2⟩, HBr, HLr, ⟨by rw [Cf.extB_zero, List.append_nil]; exact HSn.out⟩, HRi⟩
   case round =>
    obtain ⟨j, rfl, HJ, HBi, HLi, HSi, HRj⟩ := hrel; (have hjb : (j : Int) ≤ 24 := by have := HJ.out; have := HCN.out; omega); by_cases hj : j < cn
    ·have d0 : decide ((j : Int) ≤ m1) = true := decide_eq_true (by have := HCN.out; omega); have HJN := zK_ hj; clear hj; have HLA := zK_ (show (Cf.outB cn L i ++ Cf.extB j x).length ≤ 5000000000 from by rw [List.length_append, Cf.extB_len]; have a1_ := Cf.outB_len cn L i; have a2_ := HCN.out; have a3_ := HJ.out; have a4_ := Nat.mul_le_mul HLn.out (show cn ≤ 24 by omega); omega); (go_wp2_with (first | ((with_reducible refine gate_callee (f := 86) rfl ?_); refine goesL_ (some 39) rfl rfl Try.func86 (by kernel_rfl) rfl #[.slice Ai x.length ci] rfl zz34 ?_; refine (impl_copyInts.calls _ _ x x _ (Kd.R_reads' HRj.out).2.2 (Kd.R_reads' HRj.out).2.1 CP.out).mono ?_; rintro e wA ⟨vA, rfl, hoA, hbA⟩; refine ⟨_, rfl, ?_⟩; have HOA := zK_ hoA; have HBA := zK_ hbA; clear hoA hbA) | ((with_reducible refine gate_builtin (b := .append) (xs := #[.tmp 39, .tmp 41]) rfl ?_); at_builtin; refine Kd.R_append (Kd.int .i64) (w0 := wr) wr.heap.size rfl (.tmp 39) (.tmp 41) 26 3 (.int .i64 0) 8 rfl Try.underlying26 info3 rfl (by decide) (by omega) vA x (j : Int) [.int .i64 (j : Int)] (fun _ => True) (fun _ => False) rfl rfl rfl (fun _ hk => hk.elim) (fun _ _ => trivial) HOA.out HBA.out (below_size HBA.out) (by have := hxl; omega) ?_; intro vC wC ho hb hg hat; obtain ⟨Ad, cd, ed⟩ := Kd.R_slice ho; subst ed; rw [show (x ++ [(j : Int)]).length = x.length + 1 from List.length_append] at ho; have HD := zK_ (Kd.R_mono (Kd.R_bound ho) (ok' := fun k_ => wr.heap.size ≤ k_) fun k_ hk => hk.2.1); have HBC := zK_ hb; clear ho hb hg hat) | ((with_reducible refine gate_builtin (b := .append) (xs := #[.tmp 37, .tmp 43]) rfl ?_); at_builtin; refine Kd.S_append (Kd.slice 3 (Kd.int .i64)) (w0 := w2) w2.heap.size rfl (.tmp 37) (.tmp 43) 34 26 (.slice none 0 0) 24 rfl Try.underlying34 info26 rfl (by decide) (by omega) u8 (Cf.outB cn L i ++ Cf.extB j x) (x ++ [(j : Int)]) [.slice Ad (x.length + 1) cd] (fun k_ => w5.heap.size ≤ k_) (fun k_ => wr.heap.size ≤ k_) rfl rfl (Kd.M_row (Kd.R_lower HD.out (below_size HBi.out))) (fun k_ hk => ⟨by have := HJ.out; omega, fun e => by have := Kd.S_lt HSi.out k_ e.symm; omega⟩) (fun k_ hk => by have := HJ.out; have := HBC.out.size; omega) (Kd.S_mono (Kd.S_below (Kd.S_bound HSi.out) HBC.out) fun k_ hk => ⟨hk.1, fun h => by have := hk.2.2.1; omega⟩) (below_step HBi.out HBC.out) (below_size (below_step HBi.out HBC.out)) (by have := HLA.out; omega) ?_; intro vE wE ho hb hg hat; have HOE := zK_ ho; have HBE := zK_ hb; have HLE := zK_ (Kd.S_grown (Kd.S_below (Kd.S_bound HLi.out) HBC.out) hg fun k_ hk e => by have := HSi.out.choose_spec.1 k_ e.symm; have := hk.1; omega); have HZE := zK_ hg.size; have HRE := zK_ (Kd.R_step (Kd.R_below HRj.out HBC.out) fun k_ hk hlt => hg.block k_ hlt fun e => by have := HSi.out.choose_spec.1 k_ e.symm; omega); clear ho hb hg hat))); go_roundw
     case rel =>
      refine ⟨j + 1, by go_num, ⟨by have := HJN.out; omega, by have := HBC.out.size; have := HZE.out; have := HJ.out; omega⟩, HBE, ⟨Kd.S_mono HLE.out fun k_ hk => hk.1⟩, ⟨?_⟩, HRE⟩; rw [Cf.extB_succ, ← List.append_assoc]; exact HOE.out
     case measure =>
      have := HJN.out; first | (simp [intOf]; done) | (simp [intOf]; omega)
    have d0 : decide ((j : Int) ≤ m1) = false := decide_eq_false (by have := HCN.out; omega); (have hjn : j = cn := by have := HJ.out; omega); subst hjn; clear hj; go_wp2; go_roundw
    case rel =>
     refine ⟨i + 1, by go_num, ⟨by have := HLT.out; omega, HJ.out.2⟩, HBi, HLi, ⟨?_⟩⟩; rw [Cf.outB_succ _ HXI.out]; exact HSi.out
    case measure =>
     have := HLT.out; (simp [intOf]); omega
def slices_Compare_int_int.l0 : Nat → List Int → List Int → List Int → Int → Int → Option (Int)
 | 0, _, _, _, _, _ => none
 | k + 1, x0, x1, x9, fF, d5 => if d5 < fF then (if 0 ≤ d5 then (if d5 < (x9.length : Int) then (if d5 ≥ (x1.length : Int) then (some 1) else (if d5 < (x1.length : Int) then ((cmp_Compare_int.f (rd x9 d5) (rd x1 d5)).bind fun bQ => (if bQ = 0 then (slices_Compare_int_int.l0 k x0 x1 x9 fF (wrap64 (d5 + 1))) else (some bQ))) else (none))) else (none)) else (none)) else (if (x0.length : Int) < (x1.length : Int) then (some (-1)) else (some 0))
def slices_Compare_int_int.f (k : Nat) (l0 : List Int) (l1 : List Int) : Option (Int) := slices_Compare_int_int.l0 k l0 l1 l0 (l0.length : Int) 0
theorem slices_Compare_int_int.mono_l : ∀ k, (∀ y0 y1 y2 y3 y4, LeO (slices_Compare_int_int.l0 k y0 y1 y2 y3 y4) (slices_Compare_int_int.l0 (k + 1) y0 y1 y2 y3 y4))
 | 0 => fun _ _ _ _ _ r h => by simp [slices_Compare_int_int.l0] at h
 | k + 1 => by
  have ih0 := slices_Compare_int_int.mono_l k
  ·intro y0 y1 y2 y3 y4
   unfold slices_Compare_int_int.l0
   exact zm0
theorem slices_Compare_int_int.mono : ∀ a0 a1 k, LeO (slices_Compare_int_int.f k a0 a1) (slices_Compare_int_int.f (k + 1) a0 a1) := by
 intro a0 a1 k; have ih0 := slices_Compare_int_int.mono_l k; unfold slices_Compare_int_int.f; exact zm0
theorem slices_Compare_int_int.calls (k : Nat) (A0 : Option Addr) (c0 : Nat) (l0 : List Int) (A1 : Option Addr) (c1 : Nat) (l1 : List Int) (r : Int) (w : World) (hr0 : Kd.C (Kd.int .i64) w A0 l0.length l0) (hc0 : l0.length ≤ c0) (hr1 : Kd.C (Kd.int .i64) w A1 l1.length l1) (hc1 : l1.length ≤ c1) (h : slices_Compare_int_int.f k l0 l1 = some r) :
  Calls Try.prog 66 #[.slice A0 l0.length c0, .slice A1 l1.length c1] w fun e w' => e = .returned (.int .i64 r) ∧ Drawn0 w w' := by
 have HR0 := zK_ hr0; have HC0 := zK_ hc0; clear hr0 hc0; have HR1 := zK_ hr1; have HC1 := zK_ hc1; clear hr1 hc1; have H : (slices_Compare_int_int.l0 k l0 l1 l0 (l0.length : Int) 0) = some r := h; clear h; have H' := zK_ H; clear H; go_enter Try.func66, Try.ntmps66; go_wp2; (go_loopg [11] k (fun kq v11 w' => ∃ (aM : Int), v11 = .int .i64 aM ∧ Aside0 (slices_Compare_int_int.l0 kq l0 l1 l0 (l0.length : Int) aM = some r) ∧ Aside0 (kq ≤ k) ∧ Drawn0 w w')); case atStart => exact ⟨(0), zz5, H', ⟨Nat.le_refl _⟩, by repeat (first | exact Drawn0.refl _ | apply Drawn0.step)⟩
 case round =>
  clear H'; (try clear c1); (try clear p2); obtain ⟨aM, rfl, HA, HK1, ⟨m1, rfl⟩⟩ := hrel
  cases gk with
  | zero => exact absurd HA.out (by simp [slices_Compare_int_int.l0])
  | succ k1 =>
   have H := HA.out; clear HA; simp only [slices_Compare_int_int.l0] at H; by_cases c3 : aM < (l0.length : Int); rotate_left
   ·rw [if_neg c3] at H; have dU := decide_eq_false c3; clear c3; by_cases c10 : (l0.length : Int) < (l1.length : Int)
    ·rw [if_pos c10] at H; have g3 := decide_eq_true c10; have vJ : decide (l0.length < l1.length) = true := decide_eq_true (Int.ofNat_lt.mp c10); clear c10; obtain rfl := Option.some.inj H; go_wp2; go_ret; exact ⟨zz5, by repeat (first | exact Drawn0.refl _ | apply Drawn0.step)⟩
    rw [if_neg c10] at H; have g3 := decide_eq_false c10; have vJ : decide (l0.length < l1.length) = false := decide_eq_false (fun h => c10 (Int.ofNat_lt.mpr h)); clear c10; obtain rfl := Option.some.inj H; go_wp2; go_ret; exact ⟨zz5, by repeat (first | exact Drawn0.refl _ | apply Drawn0.step)⟩
   rw [if_pos c3] at H; have dU := decide_eq_true c3; clear c3; by_cases c4 : 0 ≤ aM; rotate_left
   ·rw [if_neg c4] at H; exact absurd H (by simp)
   rw [if_pos c4] at H; have dI := decide_eq_true c4; clear c4; by_cases c5 : aM < (l0.length : Int); rotate_left
   ·rw [if_neg c5] at H; exact absurd H (by simp)
   rw [if_pos c5] at H; have dS := decide_eq_true c5; clear c5; by_cases c6 : aM ≥ (l1.length : Int)
   ·rw [if_pos c6] at H; have eS : decide ((l1.length : Int) ≤ aM) = true := decide_eq_true c6; clear c6; obtain rfl := Option.some.inj H; have p101 : 0 ≤ (aM : Int) := of_decide_eq_true zz4; have q101 : aM < (l0.length : Int) := of_decide_eq_true zz4; obtain ⟨cR, e101, a7⟩ := Kd.at_int HR0.out aM p101 q101; cases e101; replace p101 := eq_true p101; replace q101 := eq_true q101; go_wp2; go_ret; exact ⟨zz5, by repeat (first | exact Drawn0.refl _ | apply Drawn0.step)⟩
   rw [if_neg c6] at H; have eS : decide ((l1.length : Int) ≤ aM) = false := decide_eq_false c6; clear c6; by_cases c7 : aM < (l1.length : Int); rotate_left
   ·rw [if_neg c7] at H; exact absurd H (by simp)
   rw [if_pos c7] at H; have d4 := decide_eq_true c7; clear c7; obtain ⟨bQ, A80, H⟩ := zO_ H; (try dsimp only at H); have A8 := zK_ A80; clear A80; by_cases c9 : bQ = 0; rotate_left
   ·rw [if_neg c9] at H; have fN : (bQ == 0) = false := beq_eq_false_iff_ne.mpr c9; have qM : (bQ != 0) = true := bne_iff_ne.mpr c9; obtain rfl := Option.some.inj H; have p101 : 0 ≤ (aM : Int) := of_decide_eq_true zz4; have q101 : aM < (l0.length : Int) := of_decide_eq_true zz4; obtain ⟨cR, e101, a7⟩ := Kd.at_int HR0.out aM p101 q101; cases e101; replace p101 := eq_true p101; replace q101 := eq_true q101; have p102 : 0 ≤ (aM : Int) := of_decide_eq_true zz4; have q102 : aM < (l1.length : Int) := of_decide_eq_true zz4; obtain ⟨dB, e102, bA⟩ := Kd.at_int HR1.out aM p102 q102; cases e102; replace p102 := eq_true p102; replace q102 := eq_true q102; (go_wp2_with (first | ((with_reducible refine gate_callee (f := 100) rfl ?_); refine goesL_ (some 26) rfl rfl Try.func100 (by kernel_rfl) rfl #[.int .i64 (rd l0 aM), .int .i64 (rd l1 aM)] rfl zz3 ?_; (with_reducible refine (cmp_Compare_int.calls (rd l0 aM) (rd l1 aM) bQ _ A8.out).mono ?_); rintro e w' ⟨rfl, ⟨nd, rfl⟩⟩; refine ⟨_, rfl, ?_⟩))); go_ret; exact ⟨zz5, by repeat (first | exact Drawn0.refl _ | apply Drawn0.step)⟩
   rw [if_pos c9] at H; have fN : (bQ == 0) = true := beq_iff_eq.mpr c9; have qM : (bQ != 0) = false := bne_eq_false_iff_eq.mpr c9; clear c9; have H' := zK_ H; clear H; have p101 : 0 ≤ (aM : Int) := of_decide_eq_true zz4; have q101 : aM < (l0.length : Int) := of_decide_eq_true zz4; obtain ⟨cR, e101, a7⟩ := Kd.at_int HR0.out aM p101 q101; cases e101; replace p101 := eq_true p101; replace q101 := eq_true q101; have p102 : 0 ≤ (aM : Int) := of_decide_eq_true zz4; have q102 : aM < (l1.length : Int) := of_decide_eq_true zz4; obtain ⟨dB, e102, bA⟩ := Kd.at_int HR1.out aM p102 q102; cases e102; replace p102 := eq_true p102; replace q102 := eq_true q102; (go_wp2_with (first | ((with_reducible refine gate_callee (f := 100) rfl ?_); refine goesL_ (some 26) rfl rfl Try.func100 (by kernel_rfl) rfl #[.int .i64 (rd l0 aM), .int .i64 (rd l1 aM)] rfl zz3 ?_; (with_reducible refine (cmp_Compare_int.calls (rd l0 aM) (rd l1 aM) bQ _ A8.out).mono ?_); rintro e w' ⟨rfl, ⟨nd, rfl⟩⟩; refine ⟨_, rfl, ?_⟩))); go_roundg k1; (case measure => have := HK1.out; omega); case rel => exact ⟨(wrap64 (aM + 1)), zz5, H', ⟨zz36⟩, by repeat (first | exact Drawn0.refl _ | apply Drawn0.step)⟩
end Go.Proofs.Ytnbljcgdgblgoaa.P
end

section
namespace Go.Proofs.Ytnbljcgdgblgoaa.Cf
set_option linter.unusedVariables false
set_option linter.unusedSimpArgs false
open Go.RowKit Go.Proofs.YtnbljcgdgblgoaaW.PrintWords
def lexC : List Int → List Int → Int
 | [], [] => 0
 | [], _ :: _ => -1
 | _ :: _, [] => 1
 | x :: xs, y :: ys => if x = y then lexC xs ys else if x < y then -1 else 1
theorem lexC_self : ∀ x : List Int, lexC x x = 0
 | [] => rfl
 | x :: xs => by unfold lexC; rw [if_pos rfl]; exact lexC_self xs
theorem lexC_neg : ∀ x y : List Int, lexC y x = - lexC x y
 | [], [] => rfl
 | [], _ :: _ => rfl
 | _ :: _, [] => rfl
 | x :: xs, y :: ys => by
  unfold lexC
  by_cases e : x = y
  ·rw [if_pos e, if_pos e.symm]
   exact lexC_neg xs ys
  ·rw [if_neg e, if_neg (fun h => e h.symm)]
   by_cases h : x < y
   ·rw [if_pos h, if_neg (by omega)]
    rfl
   ·rw [if_neg h, if_pos (by omega)]
theorem lexC_zero : ∀ {x y : List Int}, lexC x y = 0 → x = y
 | [], [], _ => rfl
 | [], _ :: _, h => by simp [lexC] at h
 | _ :: _, [], h => by simp [lexC] at h
 | x :: xs, y :: ys, h => by
  unfold lexC at h
  by_cases e : x = y
  ·rw [if_pos e] at h
   rw [e, lexC_zero h]
  ·rw [if_neg e] at h
   split at h <;> omega
theorem lexC_le : ∀ {x y z : List Int}, lexC x y ≤ 0 → lexC y z ≤ 0 → lexC x z ≤ 0
 | [], _, [], _, _ => by simp [lexC]
 | [], _, _ :: _, _, _ => by simp [lexC]
 | _ :: _, [], _, h, _ => by simp [lexC] at h
 | x :: xs, y :: ys, [], _, h => by simp [lexC] at h
 | x :: xs, y :: ys, z :: zs, h1, h2 => by
  unfold lexC at h1 h2 ⊢
  by_cases e1 : x = y
  ·subst e1
   by_cases e2 : x = z
   ·rw [if_pos rfl] at h1
    rw [if_pos e2] at h2
    rw [if_pos e2]
    exact lexC_le h1 h2
   ·rw [if_neg e2] at h2
    rw [if_neg e2]
    exact h2
  ·rw [if_neg e1] at h1
   have h3 : x < y := by
    apply Classical.byContradiction
    intro c
    rw [if_neg c] at h1
    omega
   by_cases e2 : y = z
   ·subst e2
    rw [if_neg e1, if_pos h3]
    omega
   ·rw [if_neg e2] at h2
    have h4 : y < z := by
     apply Classical.byContradiction
     intro c
     rw [if_neg c] at h2
     omega
    rw [if_neg (by omega), if_pos (by omega)]
    omega
theorem lexC_lt {x y z : List Int} (h1 : lexC x y < 0) (h2 : lexC y z < 0) : lexC x z < 0 := by
 have h3 := lexC_le (Int.le_of_lt h1) (Int.le_of_lt h2)
 apply Classical.byContradiction
 intro c
 have h4 : lexC x z = 0 := by omega
 have h5 := lexC_zero h4
 subst h5
 have := lexC_neg x y
 omega
def sortL (L : List (List Int)) : List (List Int) := L.mergeSort fun x y => decide (lexC x y ≤ 0)
theorem sortL_perm (L : List (List Int)) : (sortL L).Perm L := List.mergeSort_perm L _
theorem sortL_len (L : List (List Int)) : (sortL L).length = L.length := (sortL_perm L).length_eq
theorem sortL_mem {L : List (List Int)} {x : List Int} : x ∈ sortL L ↔ x ∈ L := (sortL_perm L).mem_iff
theorem sortL_srt (L : List (List Int)) : (sortL L).Pairwise fun x y => lexC x y ≤ 0 := by
 have h := List.pairwise_mergeSort (le := fun x y : List Int => decide (lexC x y ≤ 0)) (fun a b c h1 h2 => decide_eq_true (lexC_le (of_decide_eq_true h1) (of_decide_eq_true h2))) (fun a b => by have := lexC_neg a b; simp; omega) L
 exact h.imp fun h => of_decide_eq_true h
theorem sortL_eq {L s : List (List Int)} (h1 : s.Perm L) (h2 : s.Pairwise fun x y => lexC x y ≤ 0) : s = sortL L :=
 List.Perm.eq_of_pairwise (fun a b _ _ h3 h4 => lexC_zero (by have := lexC_neg a b; omega)) h2 (sortL_srt L) (h1.trans (sortL_perm L).symm)
theorem heads_SZ {w : World} {base g cap : Nat} {ok : Nat → Prop} {f : Nat → Nat} {cur : Array Value} {Z : List (List Int × Nat)} (hb : base ≤ g) (hok : ok g) (hn : Z.length ≤ cap) (hcm : cap ≤ maxLen) (hcs : cur.size = cap) (hc : w.heap[g]? = some (.cells cur 26 (0, 0))) (hz : (Z.map (·.2)).Nodup) (hH : Heads w base ok f cur Z) :
  Kd.S (Kd.slice 3 (Kd.int .i64)) 26 w base ok (.slice (some ⟨g, 0, none⟩) Z.length cap) (Z.map (·.1)) := by
 have h2 : Heads w base ok (fun k => (Z.map (·.2)).idxOf (f k)) cur (Z.map (·.1)).zipIdx := by
  intro j x i hj
  rw [List.getElem?_zipIdx, Nat.zero_add, List.getElem?_map] at hj
  obtain ⟨y, hy, he⟩ := Option.map_eq_some_iff.1 hj
  obtain ⟨z, hz1, hz2⟩ := Option.map_eq_some_iff.1 hy
  obtain ⟨rfl, rfl⟩ := Prod.mk.inj he
  obtain ⟨x, i⟩ := z
  obtain rfl : x = y := hz2
  obtain ⟨v, hv, hR⟩ := hH j x i hz1
  refine ⟨v, hv, Kd.R_mono hR fun k hk => ⟨hk.1, ?_⟩⟩
  have hm : (Z.map (·.2))[j]? = some i := by rw [List.getElem?_map, hz1]; rfl
  obtain ⟨hjl, hje⟩ := List.getElem?_eq_some_iff.1 hm
  show (Z.map (·.2)).idxOf (f k) = j
  rw [hk.2, ← hje]
  exact hz.idxOf_getElem j hjl
 have h3 := heads_S (rows := Z.map (·.1)) hb hok (by rw [List.length_map]; exact hn) hcm hcs hc h2
 rw [List.length_map] at h3
 exact h3
end Go.Proofs.Ytnbljcgdgblgoaa.Cf
end

section
namespace Go.Proofs.Ytnbljcgdgblgoaa.P
open Go.RowKit Go.Proofs.YtnbljcgdgblgoaaW.PrintWords Go.Proofs.YtnbljcgdgblgoaaW.PrintLast Go.Proofs.YtnbljcgdgblgoaaW.PrintMore
attribute [local go_sem] max2_int min2_int max_two min_two max_three min_three max_four min_four
set_option linter.unusedVariables false
set_option linter.unusedSimpArgs false
def slices_SortFunc_int_int.ren : Go.Shelf.Ren := ⟨fun n => if n = 6 then 65 else if n = 14 then 99 else if n = 15 then 84 else if n = 20 then 125 else if n = 21 then 126 else if n = 22 then 127 else if n = 23 then 128 else if n = 24 then 129 else if n = 25 then 130 else if n = 26 then 131 else if n = 27 then 132 else if n = 28 then 118 else if n = 29 then 119 else if n = 46 then 148 else if n = 47 then 139 else if n = 48 then 140 else if n = 49 then 149 else if n = 50 then 150 else if n = 57 then 152 else n, fun n => if n = 0 then 0 else if n = 3 then 3 else if n = 4 then 4 else if n = 5 then 5 else if n = 9 then 9 else if n = 22 then 34 else if n = 24 then 26 else if n = 25 then 82 else if n = 39 then 91 else if n = 45 then 110 else if n = 46 then 111 else if n = 50 then 115 else if n = 53 then 118 else if n = 55 then 120 else if n = 66 then 132 else if n = 70 then 136 else if n = 76 then 142 else if n = 77 then 143 else n, fun n => n⟩
theorem slices_SortFunc_int_int.lay : Go.Proofs.SlLaysF.n6 Try.prog slices_SortFunc_int_int.ren where
 mixed := by kernel_rfl
 f6 := Exists.intro ("slices.SortFunc[[][]int,[]int]") (And.intro (by kernel_rfl) (by kernel_rfl))
 f14 := Exists.intro ("slices.pdqsortCmpFunc[[]int]") (And.intro (by kernel_rfl) (by kernel_rfl))
 f15 := by kernel_rfl
 f20 := Exists.intro ("slices.insertionSortCmpFunc[[]int]") (And.intro (by kernel_rfl) (by kernel_rfl))
 f21 := Exists.intro ("slices.heapSortCmpFunc[[]int]") (And.intro (by kernel_rfl) (by kernel_rfl))
 f22 := Exists.intro ("slices.breakPatternsCmpFunc[[]int]") (And.intro (by kernel_rfl) (by kernel_rfl))
 f23 := Exists.intro ("slices.choosePivotCmpFunc[[]int]") (And.intro (by kernel_rfl) (by kernel_rfl))
 f24 := Exists.intro ("slices.reverseRangeCmpFunc[[]int]") (And.intro (by kernel_rfl) (by kernel_rfl))
 f25 := Exists.intro ("slices.partialInsertionSortCmpFunc[[]int]") (And.intro (by kernel_rfl) (by kernel_rfl))
 f26 := Exists.intro ("slices.partitionEqualCmpFunc[[]int]") (And.intro (by kernel_rfl) (by kernel_rfl))
 f27 := Exists.intro ("slices.partitionCmpFunc[[]int]") (And.intro (by kernel_rfl) (by kernel_rfl))
 f28 := by kernel_rfl
 f29 := by kernel_rfl
 f46 := Exists.intro ("slices.siftDownCmpFunc[[]int]") (And.intro (by kernel_rfl) (by kernel_rfl))
 f47 := by kernel_rfl
 f48 := by kernel_rfl
 f49 := Exists.intro ("slices.medianAdjacentCmpFunc[[]int]") (And.intro (by kernel_rfl) (by kernel_rfl))
 f50 := Exists.intro ("slices.medianCmpFunc[[]int]") (And.intro (by kernel_rfl) (by kernel_rfl))
 f57 := Exists.intro ("slices.order2CmpFunc[[]int]") (And.intro (by kernel_rfl) (by kernel_rfl))
 t0 := by kernel_rfl
 a0 := fun _ => rfl
 z0 := fun _ => rfl
 v0 := fun _ => rfl
 t3 := by kernel_rfl
 a3 := fun _ => rfl
 z3 := fun _ => rfl
 v3 := fun _ => rfl
 t4 := by kernel_rfl
 a4 := fun _ => rfl
 z4 := fun _ => rfl
 v4 := fun _ => rfl
 t5 := by kernel_rfl
 a5 := fun _ => rfl
 z5 := fun _ => rfl
 v5 := fun _ => rfl
 t9 := by kernel_rfl
 a9 := fun _ => rfl
 z9 := fun _ => rfl
 v9 := fun _ => rfl
 t22 := by kernel_rfl
 a22 := fun _ => rfl
 z22 := fun _ => rfl
 v22 := fun _ => rfl
 a24 := fun _ => rfl
 z24 := fun _ => rfl
 t25 := by kernel_rfl
 a25 := fun _ => rfl
 z25 := fun _ => rfl
 v25 := fun _ => rfl
 t39 := by kernel_rfl
 a39 := fun _ => rfl
 z39 := fun _ => rfl
 v39 := fun _ => rfl
 t45 := by kernel_rfl
 a45 := fun _ => rfl
 z45 := fun _ => rfl
 v45 := fun _ => rfl
 t46 := by kernel_rfl
 a46 := fun _ => rfl
 z46 := fun _ => rfl
 v46 := fun _ => rfl
 t50 := by kernel_rfl
 a50 := fun _ => rfl
 z50 := fun _ => rfl
 v50 := fun _ => rfl
 t53 := by kernel_rfl
 a53 := fun _ => rfl
 z53 := fun _ => rfl
 v53 := fun _ => rfl
 t55 := by kernel_rfl
 a55 := fun _ => rfl
 z55 := fun _ => rfl
 v55 := fun _ => rfl
 t66 := by kernel_rfl
 a66 := fun _ => rfl
 z66 := fun _ => rfl
 v66 := fun _ => rfl
 t70 := by kernel_rfl
 a70 := fun _ => rfl
 z70 := fun _ => rfl
 v70 := fun _ => rfl
 t76 := by kernel_rfl
 a76 := fun _ => rfl
 z76 := fun _ => rfl
 v76 := fun _ => rfl
 t77 := by kernel_rfl
 a77 := fun _ => rfl
 z77 := fun _ => rfl
 v77 := fun _ => rfl
theorem slices_SortFunc_int_int.other {α : Type} [Inhabited α] (enc : α → Value) (w : World) (g m : Nat) (dk : Array α) (os : Array Obj) (k : Nat) (hk : k ≠ g) (hlt : k < w.heap.size) : (Go.Proofs.sortWorld enc w g 0 m dk os).heap[k]? = w.heap[k]? := by
 show ((w.heap.modify g (Go.Sort.onCells (Go.Sort.putCells enc 0 dk))) ++ os)[k]? = _; rw [Array.getElem?_append_left (by rw [Array.size_modify]; exact hlt), Array.getElem?_modify, if_neg (fun e => hk e.symm)]
theorem slices_SortFunc_int_int.here {α : Type} [Inhabited α] (enc : α → Value) (w : World) (g m : Nat) (dk : Array α) (os : Array Obj) {cur : Array Value} {t : TypeId} (hc : w.heap[g]? = some (.cells cur t (0, 0))) : (Go.Proofs.sortWorld enc w g 0 m dk os).heap[g]? = some (.cells (Go.Sort.putCells enc 0 dk cur) t (0, 0)) := by
 have hlt : g < w.heap.size := blk_lt hc; show ((w.heap.modify g (Go.Sort.onCells (Go.Sort.putCells enc 0 dk))) ++ os)[g]? = _; rw [Array.getElem?_append_left (by rw [Array.size_modify]; exact hlt), Array.getElem?_modify, if_pos rfl, hc]; rfl
theorem slices_SortFunc_int_int.calls (k : Nat) (L : List (List Int)) (base : Nat) (ok : Nat → Prop) (v : Value) (w : World) (hS : Kd.S (Kd.slice 3 (Kd.int .i64)) 26 w base ok v L) (hl : L.length ≤ 1000000000) (hcmp : ∀ x ∈ L, ∀ y ∈ L, slices_Compare_int_int.f k x y = some (Cf.lexC x y)) :
  Calls Try.prog 65 #[v, .func (.func 66) #[] #[]] w fun e w' => e = .returned (.tuple #[]) ∧ Kd.S (Kd.slice 3 (Kd.int .i64)) 26 w' base ok v (Cf.sortL L) ∧ Below base w w' := by
 by_cases hL : L = []
 ·subst hL; obtain ⟨A, c, rfl⟩ := Kd.S_slice hS; have h := Go.Proofs.AnyF.slices_SortFunc_none (P := Try.prog) (ρ := slices_SortFunc_int_int.ren) { slices_SortFunc_int_int.lay with } A c (.func (.func 66) #[] #[]) w; change Calls Try.prog 65 _ _ _ at h; refine h.mono ?_; rintro e w' ⟨rfl, rfl⟩; exact ⟨rfl, by rw [(Cf.sortL_perm []).eq_nil]; exact hS, Below.refl _ _⟩
 have hpos : 0 < L.length := List.length_pos_iff.2 hL; obtain ⟨g, cap, rfl, _⟩ := Kd.S_form hS hpos; obtain ⟨f, cur, hb, hok, _, hnc, hcm, hcs, hc, hH⟩ := Cf.S_heads hS; have hin : Inhabited (Fin L.length) := ⟨⟨0, hpos⟩⟩; have hlt : ∀ i : Fin L.length, i.val < cur.size := fun i => by have := i.isLt; omega
 have key : ∀ i : Fin L.length, Kd.R (Kd.int .i64) 3 w base (fun k => (ok k ∧ k ≠ g) ∧ f k = i.val) (cur[i.val]'(hlt i)) (L[i.val]'i.isLt) := by
  intro i; obtain ⟨v, hv, hR⟩ := hH i.val (L[i.val]'i.isLt) i.val (by rw [List.getElem?_zipIdx, Nat.zero_add, List.getElem?_eq_getElem i.isLt]; rfl); rw [Array.getElem?_eq_getElem (hlt i)] at hv; rw [Option.some.inj hv]; exact hR
 (have h1 : Go.Proofs.OneCell (fun i : Fin L.length => cur[i.val]'(hlt i)) := fun i => (Kd.R_val (key i)).2); have hsz : (List.finRange L.length).toArray.size = L.length := by simp
 have hget : ∀ j, (hj : j < L.length) → (List.finRange L.length).toArray[j]! = ⟨j, hj⟩ := fun j hj => by
  rw [getElem!_pos _ j (by simpa using hj)]; simp
 have hHo : Go.Sort.Holds (fun i : Fin L.length => cur[i.val]'(hlt i)) w g 0 (List.finRange L.length).toArray := by
  intro j hj; rw [hsz] at hj; refine ⟨?_, blk_frozen hc _⟩; rw [hget j hj, blk_cell hc, Nat.zero_add, Array.getElem?_eq_getElem (by omega)]
 have hcf : ∀ x y : Fin L.length, Go.Proofs.ltOf (fun i j : Fin L.length => Cf.lexC (L[i.val]'i.isLt) (L[j.val]'j.isLt)) x y = decide (Cf.lexC (L[x.val]'x.isLt) (L[y.val]'y.isLt) < 0) := fun _ _ => rfl
 have hO : Go.Sort.SWO (Go.Proofs.ltOf (fun i j : Fin L.length => Cf.lexC (L[i.val]'i.isLt) (L[j.val]'j.isLt))) := by
  refine ⟨fun x => ?_, fun x y z h1 h2 => ?_, fun x y z h1 h2 => ?_⟩
  ·rw [hcf, Cf.lexC_self]; rfl
  ·rw [hcf] at *; exact decide_eq_true (Cf.lexC_lt (of_decide_eq_true h1) (of_decide_eq_true h2))
  ·rw [hcf] at *; have g1 := of_decide_eq_false h1; have g2 := of_decide_eq_false h2; have n1 := Cf.lexC_neg (L[x.val]'x.isLt) (L[y.val]'y.isLt); have n2 := Cf.lexC_neg (L[y.val]'y.isLt) (L[z.val]'z.isLt); have n3 := Cf.lexC_neg (L[x.val]'x.isLt) (L[z.val]'z.isLt); have := Cf.lexC_le (x := L[z.val]'z.isLt) (y := L[y.val]'y.isLt) (z := L[x.val]'x.isLt) (by omega) (by omega); exact decide_eq_false (by omega)
 have hreads : Go.Proofs.CmpReads Try.prog 66 #[] (fun i : Fin L.length => cur[i.val]'(hlt i)) (fun i j : Fin L.length => Cf.lexC (L[i.val]'i.isLt) (L[j.val]'j.isLt)) g 0 (List.finRange L.length).toArray.size w := by
  intro m os dk _ x y; have hx := Kd.R_step (w1 := Go.Proofs.sortWorld (fun i : Fin L.length => cur[i.val]'(hlt i)) w g 0 m dk os) (key x) (fun k hk hl => slices_SortFunc_int_int.other _ w g m dk os k hk.1.2 hl); have hy := Kd.R_step (w1 := Go.Proofs.sortWorld (fun i : Fin L.length => cur[i.val]'(hlt i)) w g 0 m dk os) (key y) (fun k hk hl => slices_SortFunc_int_int.other _ w g m dk os k hk.1.2 hl); obtain ⟨Ax, cx, ex, hcx, hCx⟩ := Kd.R_reads hx; obtain ⟨Ay, cy, ey, hcy, hCy⟩ := Kd.R_reads hy; show Calls Try.prog 66 #[cur[x.val]'(hlt x), cur[y.val]'(hlt y)] _ _; rw [ex, ey]; refine (slices_Compare_int_int.calls k Ax cx _ Ay cy _ _ _ hCx hcx hCy hcy (hcmp _ (List.getElem_mem _) _ (List.getElem_mem _))).mono ?_; rintro e w' ⟨rfl, hd⟩; exact ⟨rfl, hd.out⟩
 have eg : ∀ args w, (callFunc 66 args).run Try.prog w = .ok (.enter 66 args) w := Go.Proofs.enters_of Try.func66 (by kernel_rfl) rfl; have hT := Go.Proofs.Any.slices_SortFunc slices_SortFunc_int_int.lay (fun i : Fin L.length => cur[i.val]'(hlt i)) h1 (fun i j : Fin L.length => Cf.lexC (L[i.val]'i.isLt) (L[j.val]'j.isLt)) hO 66 #[] g 0 cap (List.finRange L.length).toArray w eg hreads.lays hHo (blk_lt hc) (by rw [hsz]; omega); change Calls Try.prog 65 _ _ _ at hT; rw [hsz] at hT; refine hT.mono ?_; rintro e w' ⟨rfl, d', n, os, hP, hSo, rfl⟩; clear hT hreads eg; refine ⟨rfl, ?_, rfl, rfl, rfl, ?_, fun k hk => ?_⟩
 ·obtain ⟨hds, _, hperm⟩ := hP; rw [hsz] at hds; (have e1 : d'.extract 0 L.length = d' := Array.ext (by rw [Array.size_extract]; omega) fun i _ _ => by simp); (have e2 : (List.finRange L.length).toArray.extract 0 L.length = (List.finRange L.length).toArray := by have h_ : (List.finRange L.length).take L.length = List.finRange L.length := List.take_of_length_le (by simp); simp [h_]); rw [e1, e2] at hperm; have hp : d'.toList.Perm (List.finRange L.length) := hperm
  have hmap : (d'.toList.map fun i : Fin L.length => (L[i.val]'i.isLt, i.val)).map (·.1) = Cf.sortL L := by
   rw [List.map_map]; refine Cf.sortL_eq ?_ ?_
   ·refine (hp.map _).trans ?_
    have e : (List.finRange L.length).map ((fun p : List Int × Nat => p.1) ∘ fun i : Fin L.length => (L[i.val]'i.isLt, i.val)) = L := by
     (refine List.ext_getElem (by simp) fun i h1 h2 => ?_); simp
    rw [e]
   ·rw [List.pairwise_map, List.pairwise_iff_getElem]; intro i j hi hj hij; (have hi' : i < d'.size := by simpa using hi); (have hj' : j < d'.size := by simpa using hj); have hs := hSo i j (Nat.zero_le _) hij (by omega); rw [getElem!_pos d' j hj', getElem!_pos d' i hi', hcf] at hs; have hs2 := of_decide_eq_false hs; have hn := Cf.lexC_neg (L[(d'[i]).val]'(d'[i]).isLt) (L[(d'[j]).val]'(d'[j]).isLt); show Cf.lexC (L[(d'.toList[i]).val]'_) (L[(d'.toList[j]).val]'_) ≤ 0; simp only [Array.getElem_toList]; omega
  rw [← hmap]; have hlen : (d'.toList.map fun i : Fin L.length => (L[i.val]'i.isLt, i.val)).length = L.length := by rw [List.length_map, Array.length_toList, hds]
  have hnd : ((d'.toList.map fun i : Fin L.length => (L[i.val]'i.isLt, i.val)).map (·.2)).Nodup := by
   rw [List.map_map]; refine (hp.map _).nodup_iff.2 ?_
   have e : (List.finRange L.length).map ((fun p : List Int × Nat => p.2) ∘ fun i : Fin L.length => (L[i.val]'i.isLt, i.val)) = List.range L.length := by
    (refine List.ext_getElem (by simp) fun i h1 h2 => ?_); simp
   rw [e]; exact List.nodup_range
  have hSZ := Cf.heads_SZ (w := Go.Proofs.sortWorld (fun i : Fin L.length => cur[i.val]'(hlt i)) w g 0 n d' os) (base := base) (g := g) (cap := cap) (ok := ok) (f := f) (cur := Go.Sort.putCells (fun i : Fin L.length => cur[i.val]'(hlt i)) 0 d' cur) (Z := d'.toList.map fun i : Fin L.length => (L[i.val]'i.isLt, i.val)) hb hok (by omega) hcm (by unfold Go.Sort.putCells; rw [Array.size_mapIdx]; exact hcs) (slices_SortFunc_int_int.here _ w g n d' os hc) hnd ?_
  ·rw [hlen] at hSZ; exact hSZ
  ·intro j x i hj; rw [List.getElem?_map] at hj; obtain ⟨t, ht, he⟩ := Option.map_eq_some_iff.1 hj; obtain ⟨rfl, rfl⟩ := Prod.mk.inj he; obtain ⟨hjl, hje⟩ := List.getElem?_eq_some_iff.1 ht; (have hjs : j < d'.size := by simpa using hjl); refine ⟨cur[t.val]'(hlt t), ?_, Kd.R_mono (Kd.R_step (key t) (fun k hk hl => slices_SortFunc_int_int.other _ w g n d' os k hk.1.2 hl)) fun k hk => ⟨hk.1.1, hk.2⟩⟩; unfold Go.Sort.putCells; rw [Array.getElem?_mapIdx, Array.getElem?_eq_getElem (show j < cur.size by omega), Option.map_some, if_pos ⟨Nat.zero_le _, by omega⟩, Nat.sub_zero, getElem!_pos d' j hjs]; (have e3 : d'[j] = t := by rw [← hje, Array.getElem_toList]); rw [e3]
 ·show w.heap.size ≤ ((w.heap.modify g (Go.Sort.onCells (Go.Sort.putCells (fun i : Fin L.length => cur[i.val]'(hlt i)) 0 d'))) ++ os).size; rw [Array.size_append, Array.size_modify]; omega
 ·have hgl : g < w.heap.size := blk_lt hc; exact slices_SortFunc_int_int.other _ w g n d' os k (by omega) (by omega)
def impl_FullPile.l0 : Nat → Int → List Int → Int → Int → Int → List (S57) → Option (List Int)
 | 0, _, _, _, _, _, _ => none
 | k + 1, x1, x5, jG, iJ, aJ, aI => if iJ < jG then (if iJ = x1 then (impl_FullPile.l0 k x1 x5 jG (wrap64 (iJ + 1)) aJ aI) else ((impl_Valence.f k aJ aI iJ).bind fun cK => (if 0 ≤ iJ then (if iJ < (x5.length : Int) then (impl_FullPile.l0 k x1 (x5.set (iJ : Int).toNat (wrap64 (cK - 1))) jG (wrap64 (iJ + 1)) aJ aI) else (none)) else (none)))) else (some x5)
def impl_FullPile.f (k : Nat) (aD : Int) (aC : List (S57)) (a1 : Int) : Option (List Int) := (impl_isVertex.f aD aC a1).bind fun aQ => (if aQ = true then (if 0 ≤ aD then (if (aD : Int).toNat ≤ 35184372088832 then ((some (List.replicate (aD : Int).toNat 0 : List Int)).bind fun fM => (impl_FullPile.l0 k a1 fM (fM.length : Int) 0 aD aC)) else (none)) else (none)) else (some ([] : List Int)))
theorem impl_FullPile.mono_l : ∀ k, (∀ y0 y1 y2 y3 y4 y5, LeO (impl_FullPile.l0 k y0 y1 y2 y3 y4 y5) (impl_FullPile.l0 (k + 1) y0 y1 y2 y3 y4 y5))
 | 0 => fun _ _ _ _ _ _ r h => by simp [impl_FullPile.l0] at h
 | k + 1 => by
  have ih0 := impl_FullPile.mono_l k
  ·intro y0 y1 y2 y3 y4 y5
   unfold impl_FullPile.l0
   exact zm16
theorem impl_FullPile.mono : ∀ a0 a1 a2 k, LeO (impl_FullPile.f k a0 a1 a2) (impl_FullPile.f (k + 1) a0 a1 a2) := by
 intro a0 a1 a2 k; have ih0 := impl_FullPile.mono_l k; unfold impl_FullPile.f; exact zm16
theorem impl_FullPile.calls (k : Nat) (aD : Int) (aH : Option Addr) (aG : Nat) (aC : List (S57)) (a1 : Int) (r : List Int) (w : World) (hr0_1 : Kd.C k57 w aH aC.length aC) (hc0_1 : aC.length ≤ aG) (h : impl_FullPile.f k aD aC a1 = some r) :
  Calls Try.prog 68 #[.agg #[.int .i64 aD, .slice aH aC.length aG], .int .i64 a1] w fun e w' => ∃ v0_ : Value, e = .returned (v0_) ∧ Kd.R (Kd.int .i64) 3 w' w.heap.size (fun _ => True) v0_ r ∧ Below w.heap.size w w' := by
 have hu25 := Try.underlying25; have bJ := zK_ hr0_1; have bE := zK_ hc0_1; clear hr0_1 hc0_1; have HB := zK_ (Below.refl w.heap.size w); have H : ((impl_isVertex.f aD aC a1).bind fun aQ => (if aQ = true then (if 0 ≤ aD then (if (aD : Int).toNat ≤ 35184372088832 then ((some (List.replicate (aD : Int).toNat 0 : List Int)).bind fun fM => (impl_FullPile.l0 k a1 fM (fM.length : Int) 0 aD aC)) else (none)) else (none)) else (some ([] : List Int)))) = some r := h; clear h; obtain ⟨aQ, A30, H⟩ := zO_ H; (try dsimp only at H); have A3 := zK_ A30; clear A30; by_cases c4 : aQ = true; rotate_left
 ·replace c4 := Bool.eq_false_iff.mpr c4; subst c4; rw [if_neg (show ¬ (false = true) by decide)] at H; obtain rfl := Option.some.inj H; go_enter Try.func68, Try.ntmps68; (go_wp2_with (first | ((with_reducible refine gate_dst (N := 2) rfl ?_); refine box_event ?hg (N := 2) ?hd (cs := #[.int .i64 aD, .slice aH aC.length aG]) (t := 25) ?hr ?_; (case hd => rfl); (case hg => rfl); (case hr => exact zz9); intro aE hg w24 hbox hb; have n_ := zA4 (below_step zz1 hb) hbox (zz10 : w.heap.size ≤ aE) (zz10 : w.heap.size ≤ aE); clear HB; obtain ⟨HB, aA, GW101, GE101⟩ := n_; clear hb hbox hg; have l5 := zC20 aA; have l4 := zC21 aA; have lW := blk_frozen aA.out 0; have lV := blk_frozen aA.out 1) | ((with_reducible refine gate_callee (f := 47) rfl ?_); refine goesL_ (some 9) rfl rfl Try.func47 (by kernel_rfl) rfl #[.agg #[.int .i64 aD, .slice aH aC.length aG], .int .i64 a1] rfl zz3 ?_; (with_reducible refine (impl_isVertex.calls aD _ _ aC a1 false _ ?side1 ?side2 A3.out).mono ?_); (case side1 => exact zz6); (case side2 => exact bE.out); rintro e w26 ⟨rfl, hb⟩; refine ⟨_, rfl, ?_⟩; have n_ := zA2 (blk_below (g := aE) (o := .cells #[.int .i64 aD, .slice aH aC.length aG] 25 (0, 0)) zz2 hb) (below_step zz0 hb); clear aA HB; obtain ⟨aA, HB⟩ := n_; clear hb))); go_ret; exact ⟨_, zz7, zz43, zz0⟩
 subst c4; rw [if_pos rfl] at H; by_cases c5 : 0 ≤ aD; rotate_left
 ·rw [if_neg c5] at H; exact absurd H (by simp)
 rw [if_pos c5] at H; have dS := eq_true c5; have mA : decide (0 ≤ aD) = true := decide_eq_true c5; clear c5; by_cases c6 : (aD : Int).toNat ≤ 35184372088832; rotate_left
 ·rw [if_neg c6] at H; exact absurd H (by simp)
 rw [if_pos c6] at H; have eS := eq_true c6; have lB : decide ((aD : Int).toNat ≤ 35184372088832) = true := decide_eq_true c6; clear c6; obtain ⟨fM, hy_⟩ : ∃ y_ : List Int, y_ = (List.replicate (aD : Int).toNat 0) := ⟨_, rfl⟩; (replace H : (impl_FullPile.l0 k a1 fM (fM.length : Int) 0 aD aC) = some r := zzY); have kD := zK_ hy_; clear hy_; have H' := zK_ H; clear H; go_enter Try.func68, Try.ntmps68; (go_wp2_with (first | ((with_reducible refine gate_dst (N := 2) rfl ?_); refine box_event ?hg (N := 2) ?hd (cs := #[.int .i64 aD, .slice aH aC.length aG]) (t := 25) ?hr ?_; (case hd => rfl); (case hg => rfl); (case hr => exact zz9); intro aE hg w7 hbox hb; have n_ := zA4 (below_step zz1 hb) hbox (zz10 : w.heap.size ≤ aE) (zz10 : w.heap.size ≤ aE); clear HB; obtain ⟨HB, aA, GW101, GE101⟩ := n_; clear hb hbox hg; have gK := zC20 aA; have gJ := zC21 aA; have gI := blk_frozen aA.out 0; have gH := blk_frozen aA.out 1) | ((with_reducible refine gate_callee (f := 47) rfl ?_); refine goesL_ (some 9) rfl rfl Try.func47 (by kernel_rfl) rfl #[.agg #[.int .i64 aD, .slice aH aC.length aG], .int .i64 a1] rfl zz3 ?_; (with_reducible refine (impl_isVertex.calls aD _ _ aC a1 true _ ?side1 ?side2 A3.out).mono ?_); (case side1 => exact zz6); (case side2 => exact bE.out); rintro e w9 ⟨rfl, hb⟩; refine ⟨_, rfl, ?_⟩; have n_ := zA2 (blk_below (g := aE) (o := .cells #[.int .i64 aD, .slice aH aC.length aG] 25 (0, 0)) zz2 hb) (below_step zz0 hb); clear aA HB; obtain ⟨aA, HB⟩ := n_; clear hb; have cH := zC20 aA; have cG := zC21 aA; have cE := blk_frozen aA.out 0; have cC := blk_frozen aA.out 1) | ((with_reducible refine gate_dst (N := 13) rfl ?_); refine Kd.R_make (Kd.int .i64) _ 3 rfl (N := 13) rfl 26 _ _ rfl aD rfl rfl Try.underlying26 (.int .i64 0) 8 info3 rfl (by decide) (by omega) 0 (ok := fun _ => True) (okp := fun _ => True) rfl (fun _ hk => hk) trivial (of_decide_eq_true zz4) (Nat.le_trans (Nat.mul_le_mul_right _ (of_decide_eq_true zz4 : aD.toNat ≤ 35184372088832)) (by omega)) (Below.refl _ _) (Nat.le_refl _) ?_; intro v104 w11 ho12 hb hg_ hnew_; clear hg_ hnew_; (first | rw [← kD.out] at ho12 | (simp only [Int.reduceToNat] at ho12; rw [← kD.out] at ho12)); have n_ := zA3 (Kd.R_lower ho12 (below_size zz0)) (blk_below (g := aE) (o := .cells #[.int .i64 aD, .slice aH aC.length aG] 25 (0, 0)) zz2 hb) (below_step zz0 hb); clear aA HB; obtain ⟨eW, aA, HB⟩ := n_; clear hb ho12; obtain ⟨Ao13, co13, tG⟩ := Kd.R_slice eW.out; subst tG))); (go_loopg [16] k (fun kq v16 w' => ∃ (aU : List Int) (d9 : Int), v16 = .int .i64 d9 ∧ Aside0 (impl_FullPile.l0 kq a1 aU (fM.length : Int) d9 aD aC = some r) ∧ Aside0 (kq ≤ k) ∧ Aside0 (Kd.R (Kd.int .i64) 3 w' w.heap.size (fun _ => True) (.slice Ao13 fM.length co13) aU) ∧ Aside0 (w'.heap[aE]? = some (.cells #[.int .i64 aD, (.slice aH aC.length aG)] 25 (0, 0))) ∧ Aside0 (Below w.heap.size w w'))); case atStart => exact ⟨(fM), (0), zz5, H', ⟨Nat.le_refl _⟩, ⟨by (with_reducible repeat (first | apply Kd.R_alloc | apply Kd.R_drewN | apply Kd.R_drew)); exact eW.out⟩, ⟨zz2⟩, ⟨zz0⟩⟩
 case round =>
  clear H'; (try clear p2); (try clear c4); (try clear c5); (try clear dS); (try clear mA); (try clear c6); (try clear eS); (try clear lB); (try clear cH); (try clear cG); (try clear gK); (try clear gJ); (try clear cE); (try clear cC); (try clear gI); (try clear gH); obtain ⟨aU, d9, rfl, HA, HK1, bV, aA, HB⟩ := hrel; have dR := (Kd.R_reads' bV.out).1; rw [dR] at bV; (try simp only [dR]); (try simp only [dR] at aA)
  cases gk with
  | zero => exact absurd HA.out (by simp [impl_FullPile.l0])
  | succ k1 =>
   have H := HA.out; clear HA; simp only [impl_FullPile.l0] at H; by_cases c14 : d9 < (fM.length : Int); rotate_left
   ·rw [if_neg c14] at H; have f9 := decide_eq_false c14; (try (have i1 := f9; first | rw [dR] at i1 | rw [← dR] at i1)); clear c14; obtain rfl := Option.some.inj H; go_wp2; go_ret; exact ⟨_, zz7, by (with_reducible repeat (first | apply Kd.R_alloc | apply Kd.R_drewN | apply Kd.R_drew)); exact bV.out, zz0⟩
   rw [if_pos c14] at H; have f9 := decide_eq_true c14; (try (have i1 := f9; first | rw [dR] at i1 | rw [← dR] at i1)); clear c14; by_cases c15 : d9 = a1
   ·rw [if_pos c15] at H; have iY : (d9 == a1) = true := beq_iff_eq.mpr c15; have qQ : (d9 != a1) = false := bne_eq_false_iff_eq.mpr c15; clear c15; have H' := zK_ H; clear H; go_wp2; (try simp only [← dR]); go_roundg k1; (case measure => have := HK1.out; omega); case rel => exact ⟨(aU), (wrap64 (d9 + 1)), zz5, H', ⟨zz36⟩, ⟨by (try simp only [dR]); (with_reducible repeat (first | apply Kd.R_alloc | apply Kd.R_drewN | apply Kd.R_drew)); exact bV.out⟩, ⟨by (try simp only [dR]); (with_reducible repeat (first | refine blk_drewN ?_ _ | refine blk_drew ?_ | refine blk_alloc ?_ _)); exact aA.out⟩, ⟨zz0⟩⟩
   rw [if_neg c15] at H; have iY : (d9 == a1) = false := beq_eq_false_iff_ne.mpr c15; have qQ : (d9 != a1) = true := bne_iff_ne.mpr c15; obtain ⟨cK, A160, H⟩ := zO_ H; (try dsimp only at H); have A16 := zK_ A160; clear A160; by_cases c17 : 0 ≤ d9; rotate_left
   ·rw [if_neg c17] at H; exact absurd H (by simp)
   rw [if_pos c17] at H; have gN := decide_eq_true c17; clear c17; by_cases c18 : d9 < (aU.length : Int); rotate_left
   ·rw [if_neg c18] at H; exact absurd H (by simp)
   rw [if_pos c18] at H; have iW := decide_eq_true c18; (try (have mY := iW; first | rw [dR] at mY | rw [← dR] at mY)); clear c18; obtain ⟨hY, hy_⟩ : ∃ y_ : List Int, y_ = (aU.set (d9 : Int).toNat (wrap64 (cK - 1))) := ⟨_, rfl⟩; (replace H : (impl_FullPile.l0 k1 a1 hY (fM.length : Int) (wrap64 (d9 + 1)) aD aC) = some r := zzY); have iG := zK_ hy_; clear hy_; have H' := zK_ H; clear H; have gW := zC20 aA; have gV := zC21 aA; have gS := blk_frozen aA.out 0; have gR := blk_frozen aA.out 1; (go_wp2_with (first | ((with_reducible refine gate_callee (f := 75) rfl ?_); refine goesL_ (some 26) rfl rfl Try.func75 (by kernel_rfl) rfl #[.agg #[.int .i64 aD, .slice aH aC.length aG], .int .i64 d9] rfl zz3 ?_; (with_reducible refine (impl_Valence.calls k1 aD _ _ aC d9 cK _ ?side1 ?side2 A16.out).mono ?_); (case side1 => exact zz6); (case side2 => exact bE.out); rintro e w21 ⟨rfl, hb⟩; refine ⟨_, rfl, ?_⟩; have n_ := zA3 (Kd.R_below zz22 hb) (blk_below (g := aE) (o := .cells #[.int .i64 aD, .slice aH aC.length aG] 25 (0, 0)) zz2 hb) (below_step zz0 hb); clear bV aA HB; obtain ⟨bV, aA, HB⟩ := n_; clear hb; have p19 : 0 ≤ (d9 : Int) := of_decide_eq_true zz4; have q19 : (d9 : Int) < ((aU.length : Int) : Int) := of_decide_eq_true zz4; obtain ⟨go19, co19, uQ, uL, gl19, cl19, HG19⟩ := Kd.R_form bV.out (by omega); (first | cases uQ | (injection uQ with ea_ en_ ec_; (first | subst ea_ | (injection ea_ with ea_; subst ea_)); subst ec_; clear en_)); have BG := zK_ uL; have D3 := zK_ HG19; clear uL gl19 HG19; obtain ⟨yH, zY⟩ := Kd.R_celln 0 bV.out (d9 : Int) p19 q19; replace p19 := eq_true p19; replace q19 := eq_true q19; obtain ⟨hy22_, hz22_⟩ := Kd.R_celln 0 bV.out (d9 : Int) (of_decide_eq_true zz4) (of_decide_eq_true zz4); have tL := Kd.R_putg bV.out (d9 : Int) (wrap64 (cK - 1))) | ((with_reducible refine gate_store (t := 3) (p := 28) rfl ?_); refine store_event (t := 3) (p := 28) (v := ?vo_w23) (w1 := (w21.setCell ⟨go19, (d9 : Int).toNat, none⟩ (.int .i64 (wrap64 (cK - 1))))) ?hg ?ho ?hn ?hr ?_; (case ho => rfl); (case hg => rfl); (case hn => rfl); (case hr => exact zz9); intro w23 hw; have hg : w21.grownBy w23 (some go19) := (by rw [hw]; exact tL.2); have hp_ : Kd.R (Kd.int .i64) 3 w23 w.heap.size (fun _ => True) (.slice (some ⟨go19, 0, none⟩) aU.length co13) hY := (by rw [hw, iG.out]; exact tL.1); clear tL; have n_ := zA3 hp_ (blk_grown (g := aE) (o := .cells #[.int .i64 aD, .slice aH aC.length aG] 25 (0, 0)) zz2 hg (Kd.R_ne bV.out aA.out (by decide))) (by rw [hw]; exact below_set (HB.out) BG.out : Below w.heap.size w w23); clear bV aA HB; obtain ⟨bV, aA, HB⟩ := n_; clear hg hw hp_))); (try simp only [← dR]); go_roundg k1; (case measure => have := HK1.out; omega); case rel => exact ⟨(hY), (wrap64 (d9 + 1)), zz5, H', ⟨zz36⟩, ⟨by (try simp only [dR]); (with_reducible repeat (first | apply Kd.R_alloc | apply Kd.R_drewN | apply Kd.R_drew)); exact bV.out⟩, ⟨by (try simp only [dR]); (with_reducible repeat (first | refine blk_drewN ?_ _ | refine blk_drew ?_ | refine blk_alloc ?_ _)); exact aA.out⟩, ⟨zz0⟩⟩
def impl_plus.l0 : Nat → List Int → List Int → Int → Int → Option (List Int)
 | 0, _, _, _, _ => none
 | k + 1, x1, x5, fF, d5 => if d5 < fF then (if 0 ≤ d5 then (if d5 < (x5.length : Int) then (if d5 < (x1.length : Int) then (impl_plus.l0 k x1 (x5.set (d5 : Int).toNat (wrap64 ((rd x5 d5) + (rd x1 d5)))) fF (wrap64 (d5 + 1))) else (none)) else (none)) else (none)) else (some x5)
def impl_plus.f (k : Nat) (l0 : List Int) (l1 : List Int) : Option (List Int) := (impl_copyInts.f l0).bind fun dG => (impl_plus.l0 k l1 dG (dG.length : Int) 0)
theorem impl_plus.mono_l : ∀ k, (∀ y0 y1 y2 y3, LeO (impl_plus.l0 k y0 y1 y2 y3) (impl_plus.l0 (k + 1) y0 y1 y2 y3))
 | 0 => fun _ _ _ _ r h => by simp [impl_plus.l0] at h
 | k + 1 => by
  have ih0 := impl_plus.mono_l k
  ·intro y0 y1 y2 y3
   unfold impl_plus.l0
   exact zm0
theorem impl_plus.mono : ∀ a0 a1 k, LeO (impl_plus.f k a0 a1) (impl_plus.f (k + 1) a0 a1) := by
 intro a0 a1 k; have ih0 := impl_plus.mono_l k; unfold impl_plus.f; exact zm0
def impl_plus.T5 : Bool × List (List Nat × List Nat) := (true, [([], []), ([], []), ([0, 1], [0, 1]), ([2], [2]), ([], []), ([], []), ([4, 5], [4, 5]), ([6], [6]), ([3, 7], [3, 7]), ([0, 1, 0, 1, 2, 3, 4, 5, 6, 7, 8], [0, 1]), ([9, 8, 0, 1, 2, 3, 4, 5, 6, 7, 8], [8, 9])])
def impl_plus.B5 : List Nat := [0, 0, 3, 7, 0, 0, 48, 112, 255, 511, 1023]
theorem impl_plus.tab5 : rtab .any (opsOf Try.f69 5) = impl_plus.T5 := by kernel_rfl
theorem impl_plus.bits5 : waitsOk impl_plus.T5.2 impl_plus.B5 = true := by kernel_rfl
theorem impl_plus.calls (k : Nat) (A0 : Option Addr) (c0 : Nat) (l0 : List Int) (A1 : Option Addr) (c1 : Nat) (l1 : List Int) (r : List Int) (w : World) (hr0 : Kd.C (Kd.int .i64) w A0 l0.length l0) (hc0 : l0.length ≤ c0) (hr1 : Kd.C (Kd.int .i64) w A1 l1.length l1) (hc1 : l1.length ≤ c1) (h : impl_plus.f k l0 l1 = some r) :
  Calls Try.prog 69 #[.slice A0 l0.length c0, .slice A1 l1.length c1] w fun e w' => ∃ v0_ : Value, e = .returned (v0_) ∧ Kd.R (Kd.int .i64) 3 w' w.heap.size (fun _ => True) v0_ r ∧ Below w.heap.size w w' := by
 have HR0 := zK_ hr0; have HC0 := zK_ hc0; clear hr0 hc0; have HR1 := zK_ hr1; have HC1 := zK_ hc1; clear hr1 hc1; have HB := zK_ (Below.refl w.heap.size w); have H : ((impl_copyInts.f l0).bind fun dG => (impl_plus.l0 k l1 dG (dG.length : Int) 0)) = some r := h; clear h; obtain ⟨dG, A30, H⟩ := zO_ H; (try dsimp only at H); have A3 := zK_ A30; clear A30; have H' := zK_ H; clear H; go_enter Try.func69, Try.ntmps69; (go_wp2_with (first | ((with_reducible refine gate_callee (f := 86) rfl ?_); refine goesL_ (some 8) rfl rfl Try.func86 (by kernel_rfl) rfl #[.slice A0 l0.length c0] rfl zz3 ?_; (with_reducible refine (impl_copyInts.calls _ _ l0 dG _ ?side1 ?side2 A3.out).mono ?_); (case side1 => exact zz24); (case side2 => exact HC0.out); rintro e w4 ⟨v102, rfl, ho0, hb⟩; refine ⟨_, rfl, ?_⟩; have n_ := zA2 (Kd.R_lower ho0 (below_size zz1)) (below_step zz1 hb); clear HB; obtain ⟨j5, HB⟩ := n_; clear ho0 hb; obtain ⟨Ao5, co5, tD⟩ := Kd.R_slice j5.out; subst tD))); (go_loopg [11] k (fun kq v11 w' => ∃ (aU : List Int) (aM : Int), v11 = .int .i64 aM ∧ Aside0 (impl_plus.l0 kq l1 aU (dG.length : Int) aM = some r) ∧ Aside0 (kq ≤ k) ∧ Aside0 (Kd.R (Kd.int .i64) 3 w' w.heap.size (fun _ => True) (.slice Ao5 dG.length co5) aU) ∧ Aside0 (Below w.heap.size w w'))); case atStart => exact ⟨(dG), (0), zz5, H', ⟨Nat.le_refl _⟩, ⟨zz40⟩, ⟨zz1⟩⟩
 case round =>
  clear H'; (try clear c1); (try clear p2); obtain ⟨aU, aM, rfl, HA, HK1, bV, HB⟩ := hrel; have dR := (Kd.R_reads' bV.out).1; rw [dR] at bV; (try simp only [dR])
  cases gk with
  | zero => exact absurd HA.out (by simp [impl_plus.l0])
  | succ k1 =>
   have H := HA.out; clear HA; simp only [impl_plus.l0] at H; by_cases c6 : aM < (dG.length : Int); rotate_left
   ·rw [if_neg c6] at H; have eS := decide_eq_false c6; (try (have jW := eS; first | rw [dR] at jW | rw [← dR] at jW)); clear c6; obtain rfl := Option.some.inj H; go_wp2; go_ret; exact ⟨_, zz7, by (with_reducible repeat (first | apply Kd.R_alloc | apply Kd.R_drewN | apply Kd.R_drew)); exact bV.out, zz1⟩
   rw [if_pos c6] at H; have eS := decide_eq_true c6; (try (have jW := eS; first | rw [dR] at jW | rw [← dR] at jW)); clear c6; by_cases c7 : 0 ≤ aM; rotate_left
   ·rw [if_neg c7] at H; exact absurd H (by simp)
   rw [if_pos c7] at H; have d4 := decide_eq_true c7; clear c7; by_cases c8 : aM < (aU.length : Int); rotate_left
   ·rw [if_neg c8] at H; exact absurd H (by simp)
   rw [if_pos c8] at H; have fL := decide_eq_true c8; (try (have oV := fL; first | rw [dR] at oV | rw [← dR] at oV)); clear c8; by_cases c9 : aM < (l1.length : Int); rotate_left
   ·rw [if_neg c9] at H; exact absurd H (by simp)
   rw [if_pos c9] at H; have fN := decide_eq_true c9; (try (have oU := fN; first | rw [dR] at oU | rw [← dR] at oU)); clear c9; obtain ⟨mE, hy_⟩ : ∃ y_ : List Int, y_ = (aU.set (aM : Int).toNat (wrap64 ((rd aU aM) + (rd l1 aM)))) := ⟨_, rfl⟩; (replace H : (impl_plus.l0 k1 l1 mE (dG.length : Int) (wrap64 (aM + 1))) = some r := zzY); have lG := zK_ hy_; clear hy_; have H' := zK_ H; clear H; (try go_wp2); have n_ := zA2 (Kd.R_drew bV.out) (below_drew1 HB.out); clear bV HB; obtain ⟨bV, HB⟩ := n_; have p104 : 0 ≤ (aM : Int) := of_decide_eq_true zz4; have q104 : aM < (aU.length : Int) := of_decide_eq_true zz4; obtain ⟨fZ, e104, bS⟩ := Kd.at_int (Kd.R_reads' bV.out).2.2 aM p104 q104; cases e104; replace p104 := eq_true p104; replace q104 := eq_true q104; have p105 : 0 ≤ (aM : Int) := of_decide_eq_true zz4; have q105 : aM < (l1.length : Int) := of_decide_eq_true zz4; obtain ⟨cZ, e105, bK⟩ := Kd.at_int HR1.out aM p105 q105; have hw105_0 := bK; cases e105; replace bK := (HB.out.cell (World.block_lt_of_cell? w _ bK)).trans bK; replace p105 := eq_true p105; replace q105 := eq_true q105; have p10 : 0 ≤ (aM : Int) := of_decide_eq_true zz4; have q10 : (aM : Int) < ((aU.length : Int) : Int) := of_decide_eq_true zz4; obtain ⟨go10, co10, k9, qI, gl10, cl10, HG10⟩ := Kd.R_form bV.out (by omega); (first | cases k9 | (injection k9 with ea_ en_ ec_; (first | subst ea_ | (injection ea_ with ea_; subst ea_)); subst ec_; clear en_)); have rX := zK_ qI; have wI := zK_ HG10; clear qI gl10 HG10; (first | simp only [add_plain] at bS | skip); obtain ⟨pM, qG⟩ := Kd.R_celln 0 bV.out (aM : Int) p10 q10; replace p10 := eq_true p10; replace q10 := eq_true q10; have nL := Kd.R_putn bV.out (aM : Int) (wrap64 ((rd aU aM) + (rd l1 aM))); rw [← lG.out] at nL; have vW := zK_ nL; clear nL; refine start_ (n := 11) (S := fun w' => w'.cell? ⟨go10, (aM).toNat, none⟩ = some (.int .i64 (rd aU aM)) ∧ w'.cell? (cZ.add (aM).toNat) = some (.int .i64 (rd l1 aM))) (ds := [10]) (zM 11 0) (by kernel_rfl) rfl rfl ⟨bS, ((HB.out.cell (World.block_lt_of_cell? w _ hw105_0)).trans hw105_0)⟩ (fun hHeld => ?_); refine with_tabW impl_plus.tab5 impl_plus.bits5 (fun HT_ HW_ => ?_); generalize wr.drew = w11 at bV HB wI vW qG bS bK pM hHeld ⊢; refine zQ 0 14 (zM 11 1) ?_
   refine zQ 1 15 (zM 11 3) ?_
   refine zQ 2 16 (zM 11 7) ?_
   refine zQ 4 18 (zM 11 23) ?_
   refine zQ 5 19 (zM 11 55) ?_
   refine zQ 6 20 (zM 11 119) ?_
   refine take_ (i := 3) (N := some 17) (v := ?_) (a' := ?_) (zM 11 127) rfl rfl (take_ofW HT_.out HW_.out (by kernel_rfl)) (fun _ _ _ h => h) (Or.inl ⟨by rfl, ?_⟩) hHeld ?_ ?_; rotate_left
   ·rintro w' ⟨s0, s1⟩; exact zzT
   rotate_left
   ·exact zzS
   refine take_ (i := 7) (N := some 21) (v := ?_) (a' := ?_) (zM 11 255) rfl rfl (take_ofW HT_.out HW_.out (by kernel_rfl)) (fun _ _ _ h => h) (Or.inl ⟨by rfl, ?_⟩) hHeld ?_ ?_; rotate_left
   ·rintro w' ⟨s0, s1⟩; exact zzT
   rotate_left
   ·exact zzS
   refine zQ 8 22 (zM 11 511) ?_
   refine zQ 9 23 (zM 11 1023) ?_
   refine last_ (i := 10) (N := none) (zM 11 2047) rfl rfl (one_of HT_.out (by kernel_rfl)) (by decide) (fun K hK => ?_); refine skip_ (w1 := ?_) (by rfl) rfl ?_ ?_; rotate_left
   ·go_simp; rfl
   refine hK.out _ _ ?_; clear hK K; refine done_ (done_of HT_.out (by kernel_rfl)) ?_; (try go_wp2); (try simp only [← dR]); go_roundg k1; (case measure => have := HK1.out; omega); case rel => exact ⟨(mE), (wrap64 (aM + 1)), zz5, H', ⟨zz36⟩, ⟨by (try simp only [dR]); (with_reducible repeat (first | apply Kd.R_alloc | apply Kd.R_drewN | apply Kd.R_drew)); exact vW.out⟩, ⟨by repeat (first | (with_reducible first | exact HB.out | apply below_alloc | apply pw_below_drewN | apply below_drew1 | refine below_set ?_ rX.out) | exact HB.out)⟩⟩
def impl_NegateDivisor.l0 : Nat → List Int → Int → Int → Option (List Int)
 | 0, _, _, _ => none
 | k + 1, x3, x8, x9 => if x9 < x8 then (if 0 ≤ x9 then (if x9 < (x3.length : Int) then (impl_NegateDivisor.l0 k (x3.set (x9 : Int).toNat (wrap64 (-(rd x3 x9)))) x8 (wrap64 (x9 + 1))) else (none)) else (none)) else (some x3)
def impl_NegateDivisor.f (k : Nat) (l0 : List Int) : Option (List Int) := (impl_copyInts.f l0).bind fun dG => (impl_NegateDivisor.l0 k dG (dG.length : Int) 0)
theorem impl_NegateDivisor.mono_l : ∀ k, (∀ y0 y1 y2, LeO (impl_NegateDivisor.l0 k y0 y1 y2) (impl_NegateDivisor.l0 (k + 1) y0 y1 y2))
 | 0 => fun _ _ _ r h => by simp [impl_NegateDivisor.l0] at h
 | k + 1 => by
  have ih0 := impl_NegateDivisor.mono_l k
  ·intro y0 y1 y2
   unfold impl_NegateDivisor.l0
   exact zm0
theorem impl_NegateDivisor.mono : ∀ a0 k, LeO (impl_NegateDivisor.f k a0) (impl_NegateDivisor.f (k + 1) a0) := by
 intro a0 k; have ih0 := impl_NegateDivisor.mono_l k; unfold impl_NegateDivisor.f; exact zm0
theorem impl_NegateDivisor.calls (k : Nat) (A0 : Option Addr) (c0 : Nat) (l0 : List Int) (r : List Int) (w : World) (hr0 : Kd.C (Kd.int .i64) w A0 l0.length l0) (hc0 : l0.length ≤ c0) (h : impl_NegateDivisor.f k l0 = some r) :
  Calls Try.prog 70 #[.slice A0 l0.length c0] w fun e w' => ∃ v0_ : Value, e = .returned (v0_) ∧ Kd.R (Kd.int .i64) 3 w' w.heap.size (fun _ => True) v0_ r ∧ Below w.heap.size w w' := by
 have HR0 := zK_ hr0; have HC0 := zK_ hc0; clear hr0 hc0; have HB := zK_ (Below.refl w.heap.size w); have H : ((impl_copyInts.f l0).bind fun dG => (impl_NegateDivisor.l0 k dG (dG.length : Int) 0)) = some r := h; clear h; obtain ⟨dG, A20, H⟩ := zO_ H; (try dsimp only at H); have A2 := zK_ A20; clear A20; have H' := zK_ H; clear H; go_enter Try.func70, Try.ntmps70; (go_wp2_with (first | ((with_reducible refine gate_callee (f := 86) rfl ?_); refine goesL_ (some 6) rfl rfl Try.func86 (by kernel_rfl) rfl #[.slice A0 l0.length c0] rfl zz3 ?_; (with_reducible refine (impl_copyInts.calls _ _ l0 dG _ ?side1 ?side2 A2.out).mono ?_); (case side1 => exact zz24); (case side2 => exact HC0.out); rintro e w3 ⟨v102, rfl, ho0, hb⟩; refine ⟨_, rfl, ?_⟩; have n_ := zA2 (Kd.R_lower ho0 (below_size zz1)) (below_step zz1 hb); clear HB; obtain ⟨j5, HB⟩ := n_; clear ho0 hb; obtain ⟨Ao4, co4, AR⟩ := Kd.R_slice j5.out; subst AR))); (go_loopg [9] k (fun kq v9 w' => ∃ (bP : List Int) (bN : Int), v9 = .int .i64 bN ∧ Aside0 (impl_NegateDivisor.l0 kq bP (dG.length : Int) bN = some r) ∧ Aside0 (kq ≤ k) ∧ Aside0 (Kd.R (Kd.int .i64) 3 w' w.heap.size (fun _ => True) (.slice Ao4 dG.length co4) bP) ∧ Aside0 (Below w.heap.size w w'))); case atStart => exact ⟨(dG), (0), zz5, H', ⟨Nat.le_refl _⟩, ⟨zz40⟩, ⟨zz1⟩⟩
 case round =>
  clear H'; (try clear p2); obtain ⟨bP, bN, rfl, HA, HK1, bC, HB⟩ := hrel; have jC := (Kd.R_reads' bC.out).1; rw [jC] at bC; (try simp only [jC])
  cases gk with
  | zero => exact absurd HA.out (by simp [impl_NegateDivisor.l0])
  | succ k1 =>
   have H := HA.out; clear HA; simp only [impl_NegateDivisor.l0] at H; by_cases c5 : bN < (dG.length : Int); rotate_left
   ·rw [if_neg c5] at H; have dS := decide_eq_false c5; (try (have jX := dS; first | rw [jC] at jX | rw [← jC] at jX)); clear c5; obtain rfl := Option.some.inj H; go_wp2; go_ret; exact ⟨_, zz7, zz18, zz1⟩
   rw [if_pos c5] at H; have dS := decide_eq_true c5; (try (have jX := dS; first | rw [jC] at jX | rw [← jC] at jX)); clear c5; by_cases c6 : 0 ≤ bN; rotate_left
   ·rw [if_neg c6] at H; exact absurd H (by simp)
   rw [if_pos c6] at H; have eS := decide_eq_true c6; clear c6; by_cases c7 : bN < (bP.length : Int); rotate_left
   ·rw [if_neg c7] at H; exact absurd H (by simp)
   rw [if_pos c7] at H; have d4 := decide_eq_true c7; (try (have oW := d4; first | rw [jC] at oW | rw [← jC] at oW)); clear c7; obtain ⟨eG, hy_⟩ : ∃ y_ : List Int, y_ = (bP.set (bN : Int).toNat (wrap64 (-(rd bP bN)))) := ⟨_, rfl⟩; (replace H : (impl_NegateDivisor.l0 k1 eG (dG.length : Int) (wrap64 (bN + 1))) = some r := zzY); have jZ := zK_ hy_; clear hy_; have H' := zK_ H; clear H; have p104 : 0 ≤ (bN : Int) := of_decide_eq_true zz4; have q104 : bN < (bP.length : Int) := of_decide_eq_true zz4; obtain ⟨fZ, e104, bS⟩ := Kd.at_int (Kd.R_reads' bC.out).2.2 bN p104 q104; cases e104; replace p104 := eq_true p104; replace q104 := eq_true q104; have p8 : 0 ≤ (bN : Int) := of_decide_eq_true zz4; have q8 : (bN : Int) < ((bP.length : Int) : Int) := of_decide_eq_true zz4; obtain ⟨go8, co8, r9, r8, gl8, cl8, HG8⟩ := Kd.R_form bC.out (by omega); (first | cases r9 | (injection r9 with ea_ en_ ec_; (first | subst ea_ | (injection ea_ with ea_; subst ea_)); subst ec_; clear en_)); have tR := zK_ r8; have DP := zK_ HG8; clear r8 gl8 HG8; (first | simp only [add_plain] at bS | skip); obtain ⟨kV, oF⟩ := Kd.R_celln 0 bC.out (bN : Int) p8 q8; replace p8 := eq_true p8; replace q8 := eq_true q8; have BD := Kd.R_putg bC.out (bN : Int) (wrap64 (-(rd bP bN))); (go_wp2_with (first | ((with_reducible refine gate_store (t := 3) (p := 19) rfl ?_); refine store_event (t := 3) (p := 19) (v := ?vo_w10) (w1 := (wr.setCell ⟨go8, (bN : Int).toNat, none⟩ (.int .i64 (wrap64 (-(rd bP bN)))))) ?hg ?ho ?hn ?hr ?_; (case ho => rfl); (case hg => rfl); (case hn => rfl); (case hr => exact zz9); intro w10 hw; have hg : wr.grownBy w10 (some go8) := (by rw [hw]; exact BD.2); have hp_ : Kd.R (Kd.int .i64) 3 w10 w.heap.size (fun _ => True) (.slice (some ⟨go8, 0, none⟩) bP.length co4) eG := (by rw [hw, jZ.out]; exact BD.1); clear BD; have n_ := zA2 hp_ (by rw [hw]; exact below_set (HB.out) tR.out : Below w.heap.size w w10); clear bC HB; obtain ⟨bC, HB⟩ := n_; clear hg hw hp_))); (try simp only [← jC]); go_roundg k1; (case measure => have := HK1.out; omega); case rel => exact ⟨(eG), (wrap64 (bN + 1)), zz5, H', ⟨zz36⟩, ⟨by (try simp only [jC]); (with_reducible repeat (first | apply Kd.R_alloc | apply Kd.R_drewN | apply Kd.R_drew)); exact bC.out⟩, ⟨zz1⟩⟩
def impl_RecurrentPiles.row (k : Nat) (F x : List Int) : Option (List Int) := (impl_NegateDivisor.f k x).bind fun y => impl_plus.f k F y
theorem impl_RecurrentPiles.row_mono (k : Nat) (F x : List Int) : LeO (impl_RecurrentPiles.row k F x) (impl_RecurrentPiles.row (k + 1) F x) := LeO.bind (impl_NegateDivisor.mono _ k) fun _ => impl_plus.mono _ _ k
def impl_RecurrentPiles.rows (k : Nat) (F : List Int) (L : List (List Int)) : List (List Int) := L.map fun x => (impl_RecurrentPiles.row k F x).getD []
abbrev impl_RecurrentPiles.ok (k : Nat) (F : List Int) (L : List (List Int)) : Prop := (∀ x ∈ L, (impl_RecurrentPiles.row k F x).isSome = true) ∧ L.length ≤ 1000000 ∧ ∀ x ∈ impl_RecurrentPiles.rows k F L, ∀ y ∈ impl_RecurrentPiles.rows k F L, slices_Compare_int_int.f k x y = some (Cf.lexC x y)
theorem impl_RecurrentPiles.rows_up {k : Nat} {F : List Int} {L : List (List Int)} (h : impl_RecurrentPiles.ok k F L) : impl_RecurrentPiles.rows (k + 1) F L = impl_RecurrentPiles.rows k F L := by
 unfold impl_RecurrentPiles.rows; (refine List.map_congr_left fun x hx => ?_); obtain ⟨b, hb⟩ := Option.isSome_iff_exists.1 (h.1 x hx); rw [hb, impl_RecurrentPiles.row_mono k F x _ hb]
theorem impl_RecurrentPiles.ok_up {k : Nat} {F : List Int} {L : List (List Int)} (h : impl_RecurrentPiles.ok k F L) : impl_RecurrentPiles.ok (k + 1) F L := by
 refine ⟨fun x hx => ?_, h.2.1, ?_⟩
 ·obtain ⟨b, hb⟩ := Option.isSome_iff_exists.1 (h.1 x hx); rw [impl_RecurrentPiles.row_mono k F x _ hb]; rfl
 ·rw [impl_RecurrentPiles.rows_up h]; exact fun x hx y hy => slices_Compare_int_int.mono x y k _ (h.2.2 x hx y hy)
def impl_RecurrentPiles.f (k : Nat) (a0 : Int) (es : List S57) (q : Int) : Option (List (List Int) × Bool) :=
 (impl_isVertex.f a0 es q).bind fun t => if t = true then (impl_GroupOrder.f k a0 es).bind fun c => if c ≤ 400 then (impl_FullPile.f k a0 es q).bind fun F => (impl_reducedAt.f k a0 es q).bind fun L => if impl_RecurrentPiles.ok k F L then some (Cf.sortL (impl_RecurrentPiles.rows k F L), true) else none else some ([], false) else some ([], false)
theorem impl_RecurrentPiles.mono : ∀ a0 a1 a2 k, LeO (impl_RecurrentPiles.f k a0 a1 a2) (impl_RecurrentPiles.f (k + 1) a0 a1 a2) := by
 intro a0 a1 a2 k; unfold impl_RecurrentPiles.f; (refine LeO.bind (LeO.refl _) fun t => LeO.ite (LeO.bind (impl_GroupOrder.mono _ _ k) fun c => LeO.ite (LeO.bind (impl_FullPile.mono _ _ _ k) fun F => LeO.bind (impl_reducedAt.mono _ _ _ k) fun L => ?_) (LeO.refl _)) (LeO.refl _)); intro r h; (split at h); (case isFalse => cases h); rename_i hc; rw [if_pos (impl_RecurrentPiles.ok_up hc), impl_RecurrentPiles.rows_up hc]; exact h
theorem impl_RecurrentPiles.calls (k : Nat) (aD : Int) (aH : Option Addr) (aG : Nat) (aC : List S57) (a1 : Int) (r1 : List (List Int)) (r2 : Bool) (w : World) (hr0_1 : Kd.C k57 w aH aC.length aC) (hc0_1 : aC.length ≤ aG) (h : impl_RecurrentPiles.f k aD aC a1 = some (r1, r2)) :
  Calls Try.prog 27 #[.agg #[.int .i64 aD, .slice aH aC.length aG], .int .i64 a1] w fun e w' => ∃ v0_ : Value, e = .returned (.tuple #[v0_, .bool r2]) ∧ Kd.S (Kd.slice 3 (Kd.int .i64)) 26 w' w.heap.size (fun _ => True) v0_ r1 ∧ Below w.heap.size w w' := by
 have hu25 := Try.underlying25; have HE := zK_ hr0_1; have HC := zK_ hc0_1; clear hr0_1 hc0_1; unfold impl_RecurrentPiles.f at h; replace h := zO_ h; obtain ⟨t, ht, h⟩ := h; have HTT := zK_ ht; clear ht
 cases t with
 | false =>
  rw [if_neg (by simp)] at h; obtain ⟨rfl, rfl⟩ := Prod.mk.inj (Option.some.inj h); clear h; go_enter Try.func27, Try.ntmps27; (go_wp2_with (first | ((with_reducible refine gate_dst (N := 2) rfl ?_); refine box_event ?hg (N := 2) ?hd (cs := #[.int .i64 aD, .slice aH aC.length aG]) (t := 25) ?hr ?_; (case hd => rfl); (case hg => rfl); (case hr => exact zz9); intro gg hg w1 hbox hb; have BG1 := zK_ hbox; have HB1 := zK_ hb; have hz0 : w1.cell? ⟨gg, 0, none⟩ = some (.int .i64 aD) := (blk_cell BG1.out 0).trans rfl; have hz1 : w1.cell? ⟨gg, 1, none⟩ = some (.slice aH aC.length aG) := (blk_cell BG1.out 1).trans rfl; clear hg hbox hb))); refine (impl_isVertex.calls aD _ _ aC a1 false _ (Kd.C_below HE.out HB1.out) HC.out HTT.out).mono ?_; rintro e w2 ⟨rfl, hb⟩; have BG2 := zK_ (blk_below BG1.out hb); have HB2 := zK_ (below_step HB1.out hb); clear hb hz0 hz1; go_wp2; (go_ret2); exact ⟨_, rfl, Kd.S_nil _ _ _ _ _, HB2.out⟩
 | true =>
  rw [if_pos rfl] at h; replace h := zO_ h; obtain ⟨c, hc, h⟩ := h; have HCT := zK_ hc; clear hc; by_cases hle : c ≤ 400; rotate_left
  ·rw [if_neg hle] at h; obtain ⟨rfl, rfl⟩ := Prod.mk.inj (Option.some.inj h); clear h; have d0 : decide (c > 400) = true := decide_eq_true (by omega); have d1 : decide (400 < c) = true := decide_eq_true (by omega); go_enter Try.func27, Try.ntmps27; (go_wp2_with (first | ((with_reducible refine gate_dst (N := 2) rfl ?_); refine box_event ?hg (N := 2) ?hd (cs := #[.int .i64 aD, .slice aH aC.length aG]) (t := 25) ?hr ?_; (case hd => rfl); (case hg => rfl); (case hr => exact zz9); intro gg hg w1 hbox hb; have BG1 := zK_ hbox; have HB1 := zK_ hb; have hz0 : w1.cell? ⟨gg, 0, none⟩ = some (.int .i64 aD) := (blk_cell BG1.out 0).trans rfl; have hz1 : w1.cell? ⟨gg, 1, none⟩ = some (.slice aH aC.length aG) := (blk_cell BG1.out 1).trans rfl; clear hg hbox hb))); refine (impl_isVertex.calls aD _ _ aC a1 true _ (Kd.C_below HE.out HB1.out) HC.out HTT.out).mono ?_; rintro e w2 ⟨rfl, hb⟩; have BG2 := zK_ (blk_below BG1.out hb); have HB2 := zK_ (below_step HB1.out hb); clear hb hz0 hz1; have hz0 : w2.cell? ⟨gg, 0, none⟩ = some (.int .i64 aD) := (blk_cell BG2.out 0).trans rfl; have hz1 : w2.cell? ⟨gg, 1, none⟩ = some (.slice aH aC.length aG) := (blk_cell BG2.out 1).trans rfl; (go_wp2_with fail); refine (impl_GroupOrder.calls k aD _ _ aC c _ (Kd.C_below HE.out HB2.out) HC.out HCT.out).mono ?_; rintro e w3 ⟨rfl, hb⟩; have BG3 := zK_ (blk_below BG2.out hb); have HB3 := zK_ (below_step HB2.out hb); clear hb hz0 hz1 BG2 BG1; go_wp2; (go_ret2); exact ⟨_, rfl, Kd.S_nil _ _ _ _ _, HB3.out⟩
  rw [if_pos hle] at h; replace h := zO_ h; obtain ⟨F, hF, h⟩ := h; replace h := zO_ h; obtain ⟨L, hL, h⟩ := h; (split at h); (case isFalse => cases h); rename_i hok; obtain ⟨rfl, rfl⟩ := Prod.mk.inj (Option.some.inj h); clear h; obtain ⟨hro, hLl, hcmp⟩ := hok; have HLL := zK_ hL; have HRO := zK_ hro; have HLn := zK_ hLl; have HCM := zK_ hcmp; have HFF := zK_ hF; (have hnb : (L.length : Int) ≤ 1000000 := by omega); have d0 : decide (c > 400) = false := decide_eq_false (by omega); have d1 : decide (400 < c) = false := decide_eq_false (by omega); clear hro hLl hcmp hL hF hle; go_enter Try.func27, Try.ntmps27; (go_wp2_with (first | ((with_reducible refine gate_dst (N := 2) rfl ?_); refine box_event ?hg (N := 2) ?hd (cs := #[.int .i64 aD, .slice aH aC.length aG]) (t := 25) ?hr ?_; (case hd => rfl); (case hg => rfl); (case hr => exact zz9); intro gg hg w1 hbox hb; have BG1 := zK_ hbox; have HB1 := zK_ hb; have hz0 : w1.cell? ⟨gg, 0, none⟩ = some (.int .i64 aD) := (blk_cell BG1.out 0).trans rfl; have hz1 : w1.cell? ⟨gg, 1, none⟩ = some (.slice aH aC.length aG) := (blk_cell BG1.out 1).trans rfl; clear hg hbox hb))); refine (impl_isVertex.calls aD _ _ aC a1 true _ (Kd.C_below HE.out HB1.out) HC.out HTT.out).mono ?_; rintro e w2 ⟨rfl, hb⟩; have BG2 := zK_ (blk_below BG1.out hb); have HB2 := zK_ (below_step HB1.out hb); clear hb hz0 hz1; have hz0 : w2.cell? ⟨gg, 0, none⟩ = some (.int .i64 aD) := (blk_cell BG2.out 0).trans rfl; have hz1 : w2.cell? ⟨gg, 1, none⟩ = some (.slice aH aC.length aG) := (blk_cell BG2.out 1).trans rfl; (go_wp2_with fail); refine (impl_GroupOrder.calls k aD _ _ aC c _ (Kd.C_below HE.out HB2.out) HC.out HCT.out).mono ?_; rintro e w3 ⟨rfl, hb⟩; have BG3 := zK_ (blk_below BG2.out hb); have HB3 := zK_ (below_step HB2.out hb); clear hb hz0 hz1 BG2 BG1; have hz0 : w3.cell? ⟨gg, 0, none⟩ = some (.int .i64 aD) := (blk_cell BG3.out 0).trans rfl; have hz1 : w3.cell? ⟨gg, 1, none⟩ = some (.slice aH aC.length aG) := (blk_cell BG3.out 1).trans rfl; (go_wp2_with fail); refine (impl_FullPile.calls k aD _ _ aC a1 F _ (Kd.C_below HE.out HB3.out) HC.out HFF.out).mono ?_; rintro e w4 ⟨v4, rfl, hF, hb⟩; obtain ⟨AF, cF, eF⟩ := Kd.R_slice hF; subst eF; have HRF := zK_ (Kd.R_reads' hF); have BG4 := zK_ (blk_below BG3.out hb); have HB4 := zK_ (below_step HB3.out hb); clear hb hF hz0 hz1 BG3; have hz0 : w4.cell? ⟨gg, 0, none⟩ = some (.int .i64 aD) := (blk_cell BG4.out 0).trans rfl; have hz1 : w4.cell? ⟨gg, 1, none⟩ = some (.slice aH aC.length aG) := (blk_cell BG4.out 1).trans rfl; (go_wp2_with fail); refine (impl_reducedAt.calls k aD _ _ aC a1 L _ (Kd.C_below HE.out HB4.out) HC.out HLL.out).mono ?_; rintro e w5 ⟨v5, rfl, hS, hb⟩; have HB5 := zK_ (below_step HB4.out hb); obtain ⟨A, cA, eA⟩ := Kd.S_slice hS; subst eA; have HS5 := zK_ hS; have HR5 := zK_ (Kd.C_below HRF.out.2.2 hb); clear hS hb hz0 hz1 BG4; (try go_wp2); (go_loopw [7, 26] (fun v7 v26 wr => ∃ i : Nat, v26 = .int .i64 (i : Int) ∧ Aside0 (i ≤ L.length) ∧ Aside0 (Below w5.heap.size w5 wr) ∧ Aside0 (Kd.S (Kd.slice 3 (Kd.int .i64)) 26 wr w5.heap.size (fun _ => True) v7 (impl_RecurrentPiles.rows k F (L.take i)))) (fun _ v _ => L.length - (intOf v).toNat)); case atStart => exact ⟨0, rfl, ⟨Nat.zero_le _⟩, ⟨Below.refl _ _⟩, ⟨Kd.S_nil _ _ _ _ _⟩⟩
  case round =>
   obtain ⟨i, rfl, HI, HBr, HSr⟩ := hrel; by_cases hlt : i < L.length; rotate_left
   ·have c0_ : decide ((i : Int) < (L.length : Int)) = false := decide_eq_false (by omega); have c1_ : decide (i < L.length) = false := decide_eq_false hlt; (have hi : i = L.length := by have := HI.out; omega); subst hi; clear hlt; have hS := HSr.out; rw [List.take_length] at hS; have HS8 := zK_ hS; clear hS; (go_wp2_with fail); refine (slices_SortFunc_int_int.calls k (impl_RecurrentPiles.rows k F L) w5.heap.size (fun _ => True) _ _ HS8.out (by unfold impl_RecurrentPiles.rows; rw [List.length_map]; have := HLn.out; omega) HCM.out).mono ?_; rintro e w9 ⟨rfl, hS9, hb⟩; have HS9 := zK_ hS9; have HB9 := zK_ (HBr.out.trans hb); clear hS9 hb; go_wp2; (go_ret2); exact ⟨_, rfl, Kd.S_mono (Kd.S_lower HS9.out HB5.out.size) (fun _ _ => trivial), below_step HB5.out HB9.out⟩
   have c0_ : decide ((i : Int) < (L.length : Int)) = true := decide_eq_true (by omega); have c1_ : decide (i < L.length) = true := decide_eq_true hlt; (have p1 : (0 : Int) ≤ (i : Int) := by omega); (have p2 : (i : Int) < (L.length : Int) := by omega); (have hib : (i : Int) ≤ 1000000 := by omega); obtain ⟨x, hxi⟩ : ∃ x, L[i]? = some x := ⟨_, List.getElem?_eq_getElem hlt⟩; (have hx : rd_L3 L (i : Int) = x := by unfold rd_L3; rw [Int.toNat_natCast, List.getD_eq_getElem?_getD, hxi]; rfl); have hLr := Kd.S_below (Kd.S_bound HS5.out) HBr.out; obtain ⟨gL, _, _, eg, _, _, _⟩ := at_L3 (Kd.S_reads' hLr).2.2 (i : Int) p1 p2; subst eg; obtain ⟨cc, _, hM, hcell⟩ := Kd.S_get hLr ([] : List Int) (i : Int) p1 p2; obtain ⟨vx, hvx, hRx⟩ := hM; subst hvx; replace hcell := hcell 0 vx rfl; rw [show (L.getD ((i : Int)).toNat []) = x from hx] at hRx; obtain ⟨Ai, ci, ei⟩ := Kd.R_slice hRx; subst ei; rw [Int.toNat_natCast, show i * (Kd.slice 3 (Kd.int .i64)).sz + 0 = i from Nat.mul_one i] at hcell; have HRi := zK_ (Kd.R_reads' hRx); obtain ⟨row, hrow⟩ := Option.isSome_iff_exists.1 (HRO.out x (List.mem_of_getElem? hxi)); have hrow2 := hrow; unfold impl_RecurrentPiles.row at hrow2; obtain ⟨ne, hne, hpl⟩ := zO_ hrow2; have HNE := zK_ hne; have HPL := zK_ hpl; have HLT := zK_ hlt; have HXI := zK_ hxi; have HROW := zK_ hrow; have HOL := zK_ (show (impl_RecurrentPiles.rows k F (L.take i)).length ≤ 1000000 from by unfold impl_RecurrentPiles.rows; rw [List.length_map, List.length_take]; have := HLn.out; omega); clear hxi hlt hx hRx hrow hrow2 hne hpl hLr; (go_wp2_with fail); refine (impl_NegateDivisor.calls k _ _ x ne _ HRi.out.2.2 HRi.out.2.1 HNE.out).mono ?_; rintro e w6 ⟨v6, rfl, hN, hb6⟩; obtain ⟨AN, cN, eN⟩ := Kd.R_slice hN; subst eN; have HRN := zK_ (Kd.R_reads' hN); have HB6 := zK_ hb6; clear hN hb6; (go_wp2_with fail); refine (impl_plus.calls k _ _ F _ _ ne row _ (Kd.C_below (Kd.C_below HR5.out HBr.out) HB6.out) HRF.out.2.1 HRN.out.2.2 HRN.out.2.1 HPL.out).mono ?_; rintro e w7 ⟨v7, rfl, hP, hb7⟩; obtain ⟨AP, cP, eP⟩ := Kd.R_slice hP; subst eP; have vZ := zK_ (Kd.R_mono (Kd.R_bound hP) (ok' := fun k_ => wr.heap.size ≤ k_) fun k_ hk => by have := hk.2.1; have := HB6.out.size; omega); have HB7 := zK_ (below_step HB6.out hb7); clear hP hb7; (go_wp2_with (first | ((with_reducible refine gate_builtin (b := .append) (xs := #[.tmp 30, .tmp 35]) rfl ?_); at_builtin; refine Kd.S_append (Kd.slice 3 (Kd.int .i64)) (w0 := w5) w5.heap.size rfl (.tmp 30) (.tmp 35) 34 26 (.slice none 0 0) 24 rfl Try.underlying34 info26 rfl (by decide) (by omega) u7 (impl_RecurrentPiles.rows k F (L.take i)) row [.slice AP row.length cP] (fun _ => True) (fun k_ => wr.heap.size ≤ k_) rfl rfl (Kd.M_row (Kd.R_lower vZ.out (Nat.le_trans HBr.out.size HB6.out.size))) (fun k_ hk => ⟨trivial, fun e => by have := Kd.S_lt HSr.out k_ e.symm; omega⟩) (fun k_ hk => trivial) (Kd.S_mono (Kd.S_below (Kd.S_bound HSr.out) HB7.out) fun k_ hk => ⟨trivial, fun h => by have := hk.2.2.1; omega⟩) (below_step HBr.out HB7.out) (below_size (below_step HBr.out HB7.out)) (by have := HOL.out; omega) ?_; intro vE wE ho hb hg hat; have HOE := zK_ ho; have HBE := zK_ hb; clear ho hb hg hat))); go_roundw
   case rel =>
    refine ⟨i + 1, by go_num, ⟨HLT.out⟩, HBE, ⟨?_⟩⟩; unfold impl_RecurrentPiles.rows; rw [List.take_add_one, HXI.out, List.map_append, show (Option.toList (some x)).map (fun x => (impl_RecurrentPiles.row k F x).getD []) = [row] from by show [(impl_RecurrentPiles.row k F x).getD []] = _; rw [HROW.out]; rfl]; exact HOE.out
   case measure =>
    have := HLT.out; (simp [intOf]); omega
def impl_GenusOf.f (aD : Int) (aC : List (S57)) : Option (Int) := (impl_GraphOk.f aD aC).bind fun aQ => (if aQ = true then (some (wrap64 ((wrap64 ((aC.length : Int) - aD)) + 1))) else (some (-1)))
theorem impl_GenusOf.calls (aD : Int) (aH : Option Addr) (aG : Nat) (aC : List (S57)) (r : Int) (w : World) (hr0_1 : Kd.C k57 w aH aC.length aC) (hc0_1 : aC.length ≤ aG) (h : impl_GenusOf.f aD aC = some r) :
  Calls Try.prog 74 #[.agg #[.int .i64 aD, .slice aH aC.length aG]] w fun e w' => e = .returned (.int .i64 r) ∧ Below w.heap.size w w' := by
 have hu25 := Try.underlying25; have bJ := zK_ hr0_1; have bE := zK_ hc0_1; clear hr0_1 hc0_1; have HB := zK_ (Below.refl w.heap.size w); have H : ((impl_GraphOk.f aD aC).bind fun aQ => (if aQ = true then (some (wrap64 ((wrap64 ((aC.length : Int) - aD)) + 1))) else (some (-1)))) = some r := h; clear h; obtain ⟨aQ, A20, H⟩ := zO_ H; (try dsimp only at H); have A2 := zK_ A20; clear A20; by_cases c3 : aQ = true
 ·subst c3; rw [if_pos rfl] at H; obtain rfl := Option.some.inj H; go_enter Try.func74, Try.ntmps74; (go_wp2_with (first | ((with_reducible refine gate_dst (N := 1) rfl ?_); refine box_event ?hg (N := 1) ?hd (cs := #[.int .i64 aD, .slice aH aC.length aG]) (t := 25) ?hr ?_; (case hd => rfl); (case hg => rfl); (case hr => exact zz9); intro aE hg w4 hbox hb; have n_ := zA4 (below_step zz1 hb) hbox (zz10 : w.heap.size ≤ aE) (zz10 : w.heap.size ≤ aE); clear HB; obtain ⟨HB, aA, GW101, GE101⟩ := n_; clear hb hbox hg; have hU := zC20 aA; have g9 := zC21 aA; have g8 := blk_frozen aA.out 0; have g7 := blk_frozen aA.out 1) | ((with_reducible refine gate_callee (f := 50) rfl ?_); refine goesL_ (some 4) rfl rfl Try.func50 (by kernel_rfl) rfl #[.agg #[.int .i64 aD, .slice aH aC.length aG]] rfl zz3 ?_; (with_reducible refine (impl_GraphOk.calls aD _ _ aC true _ ?side1 ?side2 A2.out).mono ?_); (case side1 => exact zz6); (case side2 => exact bE.out); rintro e w6 ⟨rfl, hb⟩; refine ⟨_, rfl, ?_⟩; have n_ := zA2 (blk_below (g := aE) (o := .cells #[.int .i64 aD, .slice aH aC.length aG] 25 (0, 0)) zz2 hb) (below_step zz0 hb); clear aA HB; obtain ⟨aA, HB⟩ := n_; clear hb; have eO := zC20 aA; have eM := zC21 aA; have eI := blk_frozen aA.out 0; have eH := blk_frozen aA.out 1))); go_ret; exact ⟨zz7, zz0⟩
 replace c3 := Bool.eq_false_iff.mpr c3; subst c3; rw [if_neg (show ¬ (false = true) by decide)] at H; obtain rfl := Option.some.inj H; go_enter Try.func74, Try.ntmps74; (go_wp2_with (first | ((with_reducible refine gate_dst (N := 1) rfl ?_); refine box_event ?hg (N := 1) ?hd (cs := #[.int .i64 aD, .slice aH aC.length aG]) (t := 25) ?hr ?_; (case hd => rfl); (case hg => rfl); (case hr => exact zz9); intro aE hg w8 hbox hb; have n_ := zA4 (below_step zz1 hb) hbox (zz10 : w.heap.size ≤ aE) (zz10 : w.heap.size ≤ aE); clear HB; obtain ⟨HB, aA, GW101, GE101⟩ := n_; clear hb hbox hg; have fD := zC20 aA; have fC := zC21 aA; have fB := blk_frozen aA.out 0; have fA := blk_frozen aA.out 1) | ((with_reducible refine gate_callee (f := 50) rfl ?_); refine goesL_ (some 4) rfl rfl Try.func50 (by kernel_rfl) rfl #[.agg #[.int .i64 aD, .slice aH aC.length aG]] rfl zz3 ?_; (with_reducible refine (impl_GraphOk.calls aD _ _ aC false _ ?side1 ?side2 A2.out).mono ?_); (case side1 => exact zz6); (case side2 => exact bE.out); rintro e w10 ⟨rfl, hb⟩; refine ⟨_, rfl, ?_⟩; have n_ := zA2 (blk_below (g := aE) (o := .cells #[.int .i64 aD, .slice aH aC.length aG] 25 (0, 0)) zz2 hb) (below_step zz0 hb); clear aA HB; obtain ⟨aA, HB⟩ := n_; clear hb))); go_ret; exact ⟨zz7, zz0⟩
def impl_LevelCounts.l0 : Nat → Int → List Int → List (List Int) → Int → Int → Int → List (S57) → Option (List Int × Bool)
 | 0, _, _, _, _, _, _, _ => none
 | k + 1, x1, x8, o8, m8, nN, aJ, aI => if nN < m8 then (if 0 ≤ nN then (if nN < (o8.length : Int) then ((impl_sumOf.f k (rd_L3 o8 nN)).bind fun dT => ((impl_Valence.f k aJ aI x1).bind fun dF => (if 0 ≤ (wrap64 ((wrap64 (dT + dF)) - (aI.length : Int))) then (if (wrap64 ((wrap64 (dT + dF)) - (aI.length : Int))) < (x8.length : Int) then (impl_LevelCounts.l0 k x1 (x8.set ((wrap64 ((wrap64 (dT + dF)) - (aI.length : Int))) : Int).toNat (wrap64 ((rd x8 (wrap64 ((wrap64 (dT + dF)) - (aI.length : Int)))) + 1))) o8 m8 (wrap64 (nN + 1)) aJ aI) else (none)) else (none)))) else (none)) else (none)) else (some (x8, true))
def impl_LevelCounts.f (k : Nat) (aD : Int) (aC : List (S57)) (a1 : Int) : Option (List Int × Bool) := (impl_RecurrentPiles.f k aD aC a1).bind fun eU => (if eU.2 = true then ((impl_GenusOf.f aD aC).bind fun cK => (if 0 ≤ (wrap64 (cK + 1)) then (if (wrap64 (cK + 1) : Int).toNat ≤ 35184372088832 then (impl_LevelCounts.l0 k a1 (List.replicate (wrap64 (cK + 1) : Int).toNat 0) eU.1 (eU.1.length : Int) 0 aD aC) else (none)) else (none))) else (some (([] : List Int), false)))
theorem impl_LevelCounts.mono_l : ∀ k, (∀ y0 y1 y2 y3 y4 y5 y6, LeO (impl_LevelCounts.l0 k y0 y1 y2 y3 y4 y5 y6) (impl_LevelCounts.l0 (k + 1) y0 y1 y2 y3 y4 y5 y6))
 | 0 => fun _ _ _ _ _ _ _ r h => by simp [impl_LevelCounts.l0] at h
 | k + 1 => by
  have ih0 := impl_LevelCounts.mono_l k
  ·intro y0 y1 y2 y3 y4 y5 y6
   unfold impl_LevelCounts.l0
   exact zm12
theorem impl_LevelCounts.mono : ∀ a0 a1 a2 k, LeO (impl_LevelCounts.f k a0 a1 a2) (impl_LevelCounts.f (k + 1) a0 a1 a2) := by
 intro a0 a1 a2 k; have ih0 := impl_LevelCounts.mono_l k; unfold impl_LevelCounts.f; exact zm12
def impl_LevelCounts.T8 : Bool × List (List Nat × List Nat) := (true, [([], []), ([], []), ([1], [1]), ([], []), ([], []), ([3, 4, 2], [3, 4]), ([2, 5], [2, 5]), ([], []), ([7], [7]), ([8], [8]), ([6, 9], [6, 9]), ([0, 10], [0, 10]), ([11], [11]), ([12], [12]), ([0, 10, 0, 1, 2, 3, 4, 5, 6, 7, 8, 9, 10, 11, 12, 13], [0, 10]), ([14, 13, 5, 0, 1, 2, 3, 4, 5, 6, 7, 8, 9, 10, 11, 12, 13], [13, 14])])
def impl_LevelCounts.B8 : List Nat := [0, 0, 2, 0, 0, 30, 62, 0, 128, 384, 1022, 2047, 4095, 8191, 16383, 32767]
theorem impl_LevelCounts.tab8 : rtab .any (opsOf Try.f29 8) = impl_LevelCounts.T8 := by kernel_rfl
theorem impl_LevelCounts.bits8 : waitsOk impl_LevelCounts.T8.2 impl_LevelCounts.B8 = true := by kernel_rfl
theorem impl_LevelCounts.calls (k : Nat) (aD : Int) (aH : Option Addr) (aG : Nat) (aC : List (S57)) (a1 : Int) (r1 : List Int) (r2 : Bool) (w : World) (hr0_1 : Kd.C k57 w aH aC.length aC) (hc0_1 : aC.length ≤ aG) (h : impl_LevelCounts.f k aD aC a1 = some (r1, r2)) :
  Calls Try.prog 29 #[.agg #[.int .i64 aD, .slice aH aC.length aG], .int .i64 a1] w fun e w' => ∃ v0_ : Value, e = .returned (.tuple #[v0_, .bool r2]) ∧ Kd.R (Kd.int .i64) 3 w' w.heap.size (fun _ => True) v0_ r1 ∧ Below w.heap.size w w' := by
 have hu25 := Try.underlying25; have bJ := zK_ hr0_1; have bE := zK_ hc0_1; clear hr0_1 hc0_1; have HB := zK_ (Below.refl w.heap.size w); have H : ((impl_RecurrentPiles.f k aD aC a1).bind fun eU => (if eU.2 = true then ((impl_GenusOf.f aD aC).bind fun cK => (if 0 ≤ (wrap64 (cK + 1)) then (if (wrap64 (cK + 1) : Int).toNat ≤ 35184372088832 then (impl_LevelCounts.l0 k a1 (List.replicate (wrap64 (cK + 1) : Int).toNat 0) eU.1 (eU.1.length : Int) 0 aD aC) else (none)) else (none))) else (some (([] : List Int), false)))) = some (r1, r2) := h; clear h; replace H := zO_ H; obtain ⟨⟨aQ, dA⟩, A30, H⟩ := H; dsimp only at H; have A3 := zK_ A30; clear A30; by_cases c4 : dA = true; rotate_left
 ·replace c4 := Bool.eq_false_iff.mpr c4; subst c4; rw [if_neg (show ¬ (false = true) by decide)] at H; simp only [Option.some.injEq, Prod.mk.injEq] at H; obtain ⟨rfl, rfl⟩ := H; go_enter Try.func29, Try.ntmps29; (go_wp2_with (first | ((with_reducible refine gate_dst (N := 2) rfl ?_); refine box_event ?hg (N := 2) ?hd (cs := #[.int .i64 aD, .slice aH aC.length aG]) (t := 25) ?hr ?_; (case hd => rfl); (case hg => rfl); (case hr => exact zz9); intro aE hg w30 hbox hb; have n_ := zA4 (below_step zz1 hb) hbox (zz10 : w.heap.size ≤ aE) (zz10 : w.heap.size ≤ aE); clear HB; obtain ⟨HB, aA, GW101, GE101⟩ := n_; clear hb hbox hg; have oN := zC20 aA; have oM := zC21 aA; have n8 := blk_frozen aA.out 0; have n7 := blk_frozen aA.out 1) | ((with_reducible refine gate_callee (f := 27) rfl ?_); refine goesL_ (some 14) rfl rfl Try.func27 (by kernel_rfl) rfl #[.agg #[.int .i64 aD, .slice aH aC.length aG], .int .i64 a1] rfl zz3 ?_; (with_reducible refine (impl_RecurrentPiles.calls k aD _ _ aC a1 aQ false _ ?side1 ?side2 A3.out).mono ?_); (case side1 => exact zz6); (case side2 => exact bE.out); rintro e w32 ⟨v103, rfl, ho0, hb⟩; refine ⟨_, rfl, ?_⟩; have n_ := zA3 (Kd.S_lower ho0 (below_size zz0)) (blk_below (g := aE) (o := .cells #[.int .i64 aD, .slice aH aC.length aG] 25 (0, 0)) zz2 hb) (below_step zz0 hb); clear aA HB; obtain ⟨bT, aA, HB⟩ := n_; clear ho0 hb))); (go_ret2); exact ⟨_, zz7, zz43, zz0⟩
 subst c4; rw [if_pos rfl] at H; obtain ⟨cK, A50, H⟩ := zO_ H; (try dsimp only at H); have A5 := zK_ A50; clear A50; obtain ⟨j7, iV⟩ : ∃ j_ : Int, (wrap64 (cK + 1)) = j_ := ⟨_, rfl⟩; (replace H : (if 0 ≤ (j7) then (if (j7 : Int).toNat ≤ 35184372088832 then (impl_LevelCounts.l0 k a1 (List.replicate (j7 : Int).toNat 0) aQ (aQ.length : Int) 0 aD aC) else (none)) else (none)) = some (r1, r2) := by first | (rw [iV] at H; exact H) | (simp only [iV] at H ⊢; exact H)); (try rw [iV] at A3); (try rw [iV] at A5); have uF : (IntKind.i64.wrap (cK + 1)) = j7 := (i64_w _).trans iV; by_cases c7 : 0 ≤ (j7); rotate_left
 ·rw [if_neg c7] at H; exact absurd H (by simp)
 rw [if_pos c7] at H; have d4 := eq_true c7; have lA : decide (0 ≤ (j7)) = true := decide_eq_true c7; clear c7; by_cases c8 : (j7 : Int).toNat ≤ 35184372088832; rotate_left
 ·rw [if_neg c8] at H; exact absurd H (by simp)
 rw [if_pos c8] at H; have fL := eq_true c8; have pD : decide ((j7 : Int).toNat ≤ 35184372088832) = true := decide_eq_true c8; clear c8; obtain ⟨hY, hy_⟩ : ∃ y_ : List Int, y_ = (List.replicate (j7 : Int).toNat 0) := ⟨_, rfl⟩; (replace H : (impl_LevelCounts.l0 k a1 hY aQ (aQ.length : Int) 0 aD aC) = some (r1, r2) := zzY); have iG := zK_ hy_; clear hy_; have H' := zK_ H; clear H; go_enter Try.func29, Try.ntmps29; (go_wp2_with (first | ((with_reducible refine gate_dst (N := 2) rfl ?_); refine box_event ?hg (N := 2) ?hd (cs := #[.int .i64 aD, .slice aH aC.length aG]) (t := 25) ?hr ?_; (case hd => rfl); (case hg => rfl); (case hr => exact zz9); intro aE hg w9 hbox hb; have n_ := zA4 (below_step zz1 hb) hbox (zz10 : w.heap.size ≤ aE) (zz10 : w.heap.size ≤ aE); clear HB; obtain ⟨HB, aA, GW101, GE101⟩ := n_; clear hb hbox hg; have cH := zC20 aA; have cG := zC21 aA; have cE := blk_frozen aA.out 0; have cC := blk_frozen aA.out 1) | ((with_reducible refine gate_callee (f := 27) rfl ?_); refine goesL_ (some 14) rfl rfl Try.func27 (by kernel_rfl) rfl #[.agg #[.int .i64 aD, .slice aH aC.length aG], .int .i64 a1] rfl zz3 ?_; (with_reducible refine (impl_RecurrentPiles.calls k aD _ _ aC a1 aQ true _ ?side1 ?side2 A3.out).mono ?_); (case side1 => exact zz6); (case side2 => exact bE.out); rintro e w11 ⟨v103, rfl, ho0, hb⟩; refine ⟨_, rfl, ?_⟩; have n_ := zA3 (Kd.S_lower ho0 (below_size zz0)) (blk_below (g := aE) (o := .cells #[.int .i64 aD, .slice aH aC.length aG] 25 (0, 0)) zz2 hb) (below_step zz0 hb); clear aA HB; obtain ⟨bT, aA, HB⟩ := n_; clear ho0 hb; have fT := zC20 aA; have fS := zC21 aA; have fR := blk_frozen aA.out 0; have fQ := blk_frozen aA.out 1) | ((with_reducible refine gate_callee (f := 74) rfl ?_); refine goesL_ (some 20) rfl rfl Try.func74 (by kernel_rfl) rfl #[.agg #[.int .i64 aD, .slice aH aC.length aG]] rfl zz3 ?_; (with_reducible refine (impl_GenusOf.calls aD _ _ aC cK _ ?side1 ?side2 A5.out).mono ?_); (case side1 => exact zz6); (case side2 => exact bE.out); rintro e w13 ⟨rfl, hb⟩; refine ⟨_, rfl, ?_⟩; have n_ := zA3 (Kd.S_below (by (with_reducible repeat (first | apply Kd.S_alloc | apply Kd.S_drewN | apply Kd.S_drew)); exact bT.out) hb) (blk_below (g := aE) (o := .cells #[.int .i64 aD, .slice aH aC.length aG] 25 (0, 0)) zz2 hb) (below_step zz0 hb); clear bT aA HB; obtain ⟨bT, aA, HB⟩ := n_; clear hb) | ((with_reducible refine gate_dst (N := 22) rfl ?_); refine Kd.R_make (Kd.int .i64) _ 3 rfl (N := 22) rfl 26 _ _ rfl j7 rfl rfl Try.underlying26 (.int .i64 0) 8 info3 rfl (by decide) (by omega) 0 (ok := fun _ => True) (okp := fun _ => True) rfl (fun _ hk => hk) trivial (of_decide_eq_true zz4) (Nat.le_trans (Nat.mul_le_mul_right _ (of_decide_eq_true zz4 : j7.toNat ≤ 35184372088832)) (by omega)) (Below.refl _ _) (Nat.le_refl _) ?_; intro v108 w14 ho15 hb hg_ hnew_; clear hg_ hnew_; (first | rw [← iG.out] at ho15 | (simp only [Int.reduceToNat] at ho15; rw [← iG.out] at ho15)); have n_ := zA4 (Kd.S_elder' (by (with_reducible repeat (first | apply Kd.S_alloc | apply Kd.S_drewN | apply Kd.S_drew)); exact bT.out) (Kd.R_base ho15) hb) (Kd.R_lower ho15 (below_size zz0)) (blk_below (g := aE) (o := .cells #[.int .i64 aD, .slice aH aC.length aG] 25 (0, 0)) zz2 hb) (below_step zz0 hb); clear bT aA HB; obtain ⟨bT, eB, aA, HB⟩ := n_; clear hb ho15; obtain ⟨Ao16, co16, tF⟩ := Kd.S_slice bT.out; subst tF))); (go_loopg [25] k (fun kq v25 w' => ∃ (bD : List Int) (f8 : Int), v25 = .int .i64 f8 ∧ Aside0 (impl_LevelCounts.l0 kq a1 bD aQ (aQ.length : Int) f8 aD aC = some (r1, r2)) ∧ Aside0 (kq ≤ k) ∧ Aside0 (Kd.R (Kd.int .i64) 3 w' w.heap.size (fun _ => True) v108 bD) ∧ Aside0 (Kd.S (Kd.slice 3 (Kd.int .i64)) 26 w' w.heap.size (fun k_ => some k_ ≠ (v108 : Value).ownBlock) (.slice Ao16 aQ.length co16) aQ) ∧ Aside0 (w'.heap[aE]? = some (.cells #[.int .i64 aD, (.slice aH aC.length aG)] 25 (0, 0))) ∧ Aside0 (Below w.heap.size w w'))); case atStart => exact ⟨(hY), (0), zz5, H', ⟨Nat.le_refl _⟩, ⟨by (with_reducible repeat (first | apply Kd.R_alloc | apply Kd.R_drewN | apply Kd.R_drew)); exact eB.out⟩, ⟨by (with_reducible repeat (first | apply Kd.S_alloc | apply Kd.S_drewN | apply Kd.S_drew)); exact Kd.S_mono bT.out (fun _ hk => hk.2)⟩, ⟨zz2⟩, ⟨zz0⟩⟩
 case round =>
  clear H'; (try clear c2); (try clear p2); (try clear c4); (try clear p6); (try clear c7); (try clear d4); (try clear lA); (try clear c8); (try clear fL); (try clear pD); (try clear cH); (try clear cG); (try clear fT); (try clear fS); (try clear cE); (try clear cC); (try clear fR); (try clear fQ); obtain ⟨bD, f8, rfl, HA, HK1, cS, i3, aA, HB⟩ := hrel
  cases gk with
  | zero => exact absurd HA.out (by simp [impl_LevelCounts.l0])
  | succ k1 =>
   have H := HA.out; clear HA; simp only [impl_LevelCounts.l0] at H; by_cases c17 : f8 < (aQ.length : Int); rotate_left
   ·rw [if_neg c17] at H; have gN := decide_eq_false c17; (try (have gM := gN; first | rw [gB] at gM | rw [← gB] at gM)); clear c17; simp only [Option.some.injEq, Prod.mk.injEq] at H; obtain ⟨rfl, rfl⟩ := H; go_wp2; (go_ret2); exact ⟨_, by first | rfl | (simp [errW_none, errW_some] <;> rfl) | (simp only [← iV]; first | rfl | (simp [errW_none, errW_some] <;> rfl)) | (simp [*, errW_none, errW_some] <;> rfl), by (with_reducible repeat (first | apply Kd.R_alloc | apply Kd.R_drewN | apply Kd.R_drew)); exact cS.out, zz0⟩
   rw [if_pos c17] at H; have gN := decide_eq_true c17; clear c17; by_cases c18 : 0 ≤ f8; rotate_left
   ·rw [if_neg c18] at H; exact absurd H (by simp)
   rw [if_pos c18] at H; have iW := decide_eq_true c18; clear c18; by_cases c19 : f8 < (aQ.length : Int); rotate_left
   ·rw [if_neg c19] at H; exact absurd H (by simp)
   rw [if_pos c19] at H; have mX := decide_eq_true c19; clear c19; obtain ⟨dT, A200, H⟩ := zO_ H; (try dsimp only at H); have A20 := zK_ A200; clear A200; obtain ⟨dF, A210, H⟩ := zO_ H; (try dsimp only at H); have A21 := zK_ A210; clear A210; obtain ⟨dD, fY⟩ : ∃ j_ : Int, (wrap64 ((wrap64 (dT + dF)) - (aC.length : Int))) = j_ := ⟨_, rfl⟩; (replace H : (if 0 ≤ (dD) then (if (dD) < (bD.length : Int) then (impl_LevelCounts.l0 k1 a1 (bD.set ((dD) : Int).toNat (wrap64 ((rd bD (dD)) + 1))) aQ (aQ.length : Int) (wrap64 (f8 + 1)) aD aC) else (none)) else (none)) = some (r1, r2) := by first | (rw [fY] at H; exact H) | (simp only [fY] at H ⊢; exact H)); (try rw [fY] at A20); (try rw [fY] at A21); have sV : (IntKind.i64.wrap ((wrap64 (dT + dF)) - (aC.length : Int))) = dD := (i64_w _).trans fY; by_cases c23 : 0 ≤ (dD); rotate_left
   ·rw [if_neg c23] at H; exact absurd H (by simp)
   rw [if_pos c23] at H; have oX := decide_eq_true c23; clear c23; by_cases c24 : (dD) < (bD.length : Int); rotate_left
   ·rw [if_neg c24] at H; exact absurd H (by simp)
   rw [if_pos c24] at H; have mV := decide_eq_true c24; clear c24; obtain ⟨lJ, hy_⟩ : ∃ y_ : List Int, y_ = (bD.set ((dD) : Int).toNat (wrap64 ((rd bD (dD)) + 1))) := ⟨_, rfl⟩; (replace H : (impl_LevelCounts.l0 k1 a1 lJ aQ (aQ.length : Int) (wrap64 (f8 + 1)) aD aC) = some (r1, r2) := zzY); have k7 := zK_ hy_; clear hy_; have H' := zK_ H; clear H; have p110 : 0 ≤ (f8 : Int) := of_decide_eq_true zz4; have q110 : f8 < (aQ.length : Int) := of_decide_eq_true zz4; obtain ⟨sG, A110_0, c110_0, e110, lT, gB, hi110_0⟩ := at_L3 (Kd.S_reads' i3.out).2.2 f8 p110 q110; cases e110; obtain ⟨ce110, hce110, hMe110, hcc110⟩ := Kd.S_get i3.out [] f8 p110 (by first | exact q110 | exact of_decide_eq_true zz4 | (have e_ := (Kd.S_reads' i3.out).1; omega)); obtain ⟨ve110_0, rfl, ge110_0⟩ := hMe110; have hv110_0 := hcc110 0 _ rfl; rw [Nat.add_zero, show ((Kd.slice 3 (Kd.int .i64))).sz = 1 from rfl, Nat.mul_one] at hv110_0; replace hv110_0 := Option.some.inj (hv110_0.symm.trans lT); rw [hv110_0] at ge110_0; have HL110_0 := zK_ (show Kd.R (Kd.int .i64) 3 _ _ _ _ (rd_L3 aQ f8) from ge110_0); clear hv110_0 ge110_0; clear hcc110 hce110; have HR110_0 := zK_ hi110_0; have HC110_0 := zK_ gB; clear hi110_0 gB; replace p110 := eq_true p110; replace q110 := eq_true q110; (try go_wp2); have n_ := zA6 (Kd.R_drew cS.out) (Kd.S_drew i3.out) (Kd.R_drew HL110_0.out) (blk_drew aA.out) (Kd.C_drew HR110_0.out) (below_drew1 HB.out); clear cS i3 HL110_0 aA HR110_0 HB; obtain ⟨cS, i3, HL110_0, aA, HR110_0, HB⟩ := n_; obtain ⟨Ao113_, co113_, eo113_⟩ := Kd.R_slice cS.out; subst eo113_; have p113 : 0 ≤ ((dD) : Int) := of_decide_eq_true zz4; have q113 : (dD) < (bD.length : Int) := of_decide_eq_true zz4; obtain ⟨lF, e113, dW⟩ := Kd.at_int (Kd.R_reads' cS.out).2.2 (dD) p113 q113; cases e113; replace p113 := eq_true p113; replace q113 := eq_true q113; refine start_ (n := 16) (S := fun w' => w'.cell? ⟨aE, 0, none⟩ = some (.int .i64 aD) ∧ w'.cell? ⟨aE, 1, none⟩ = some (.slice aH aC.length aG) ∧ w'.cell? (lF.add ((dD)).toNat) = some (.int .i64 (rd bD (dD)))) (ds := [15]) (zM 16 0) (by kernel_rfl) rfl rfl ⟨(blk_cell aA.out 0).trans rfl, (blk_cell aA.out 1).trans rfl, dW⟩ (fun hHeld => ?_); refine with_tabW impl_LevelCounts.tab8 impl_LevelCounts.bits8 (fun HT_ HW_ => ?_); generalize wr.drew = w26 at cS i3 HL110_0 aA HR110_0 HB dW hHeld ⊢; refine zQ 0 29 (zM 16 1) ?_
   refine zQ 1 30 (zM 16 3) ?_
   refine zQ 4 33 (zM 16 19) ?_
   refine zQ 7 36 (zM 16 147) ?_
   refine take_ (i := 3) (N := some 32) (v := ?_) (a' := ?_) (zM 16 155) rfl rfl (take_ofW HT_.out HW_.out (by kernel_rfl)) (fun _ _ _ h => h) (Or.inl ⟨by rfl, ?_⟩) hHeld ?_ ?_; rotate_left
   ·rintro w' ⟨s0, s1, s2⟩; (try simp only [add_plain] at s2); exact zzT
   rotate_left
   ·exact zzS
   refine take_ (i := 8) (N := some 37) (v := ?_) (a' := ?_) (zM 16 411) rfl rfl (take_ofW HT_.out HW_.out (by kernel_rfl)) (fun _ _ _ h => h) (Or.inl ⟨by rfl, ?_⟩) hHeld ?_ ?_; rotate_left
   ·rintro w' ⟨s0, s1, s2⟩; (try simp only [add_plain] at s2); exact zzT
   rotate_left
   ·exact zzS
   refine zQ 9 38 (zM 16 923) ?_
   refine one_ (i := 2) (N := some 31) (zM 16 927) rfl rfl (one_of HT_.out (by kernel_rfl)) (by decide) (fun K hK => ?_); refine goes_ Try.func64 (by kernel_rfl) rfl #[.slice A110_0 (rd_L3 aQ f8).length c110_0] (by rfl) rfl rfl zz3 ?_; (with_reducible refine (impl_sumOf.calls k1 _ _ (rd_L3 aQ f8) dT _ ?side1 ?side2 A20.out).mono ?_); (case side1 => repeat (first | exact zz42 | (with_reducible refine Kd.C_alloc ?_ _) | (with_reducible refine Kd.C_drewN ?_ _) | (with_reducible refine Kd.C_drew ?_))); (case side2 => exact HC110_0.out); rintro e w' ⟨rfl, ⟨nd, rfl⟩⟩; refine ⟨_, rfl, ?_⟩; refine hK.out _ _ ⟨(blk_cell aA.out 0).trans rfl, (blk_cell aA.out 1).trans rfl, hHeld.2.2⟩ (fun hHeld => ?_); clear hK K; refine norm_ (a' := ?_) ?_ ?_; rotate_left
   ·show Act.put _ (some 31) _ = _; exact zzS
   refine one_ (i := 5) (N := some 34) (zM 16 959) rfl rfl (one_of HT_.out (by kernel_rfl)) (by decide) (fun K hK => ?_); refine goes_ Try.func75 (by kernel_rfl) rfl #[.agg #[.int .i64 aD, .slice aH aC.length aG], .int .i64 a1] (by rfl) rfl rfl zz3 ?_; (with_reducible refine (impl_Valence.calls k1 aD _ _ aC a1 dF _ ?side1 ?side2 A21.out).mono ?_); (case side1 => repeat (first | exact (Kd.C_below bJ.out zz0) | (with_reducible refine Kd.C_alloc ?_ _) | (with_reducible refine Kd.C_drewN ?_ _) | (with_reducible refine Kd.C_drew ?_))); (case side2 => exact bE.out); rintro e w27 ⟨rfl, hb⟩; have HS2_ := (hb.cell (World.block_lt_of_cell? _ _ (hHeld.2.2))).trans (hHeld.2.2); refine ⟨_, rfl, ?_⟩; have n_ := zA6 (Kd.R_below (by (with_reducible repeat (first | apply Kd.R_alloc | apply Kd.R_drewN | apply Kd.R_drew)); exact cS.out) hb) (Kd.S_below (by (with_reducible repeat (first | apply Kd.S_alloc | apply Kd.S_drewN | apply Kd.S_drew)); exact i3.out) hb) (Kd.R_below (by (with_reducible repeat (first | apply Kd.R_alloc | apply Kd.R_drewN | apply Kd.R_drew)); exact HL110_0.out) hb) (blk_below (g := aE) (o := .cells #[.int .i64 aD, .slice aH aC.length aG] 25 (0, 0)) zz2 hb) (Kd.C_below zz42 hb) (below_step zz0 hb); clear cS i3 HL110_0 aA HR110_0 HB; obtain ⟨cS, i3, HL110_0, aA, HR110_0, HB⟩ := n_; (try clear hb); (try clear hb2); (try clear hk); (try clear hi); obtain ⟨Ao28, co28, pC⟩ := Kd.R_slice cS.out; (first | subst pC | (injection pC with f1_ f2_ f3_; have f4_ := f1_.symm; have f5_ := f3_.symm; clear f1_ f2_ f3_; subst f4_; subst f5_)); have p25 : 0 ≤ ((dD) : Int) := of_decide_eq_true zz4; have q25 : ((dD) : Int) < ((bD.length : Int) : Int) := of_decide_eq_true zz4; obtain ⟨go25, co25, nI, qH, gl25, cl25, HG25⟩ := Kd.R_form cS.out (by omega); (first | cases nI | (injection nI with ea_ en_ ec_; (first | subst ea_ | (injection ea_ with ea_; subst ea_)); subst ec_; clear en_)); have tQ := zK_ qH; have BE := zK_ HG25; clear qH gl25 HG25; (first | simp only [add_plain] at dW | skip); obtain ⟨sS, sY⟩ := Kd.R_celln 0 cS.out ((dD) : Int) p25 q25; replace p25 := eq_true p25; replace q25 := eq_true q25; have nK := Kd.R_putn cS.out ((dD) : Int) (wrap64 ((rd bD (dD)) + 1)); rw [← k7.out] at nK; have BC := zK_ nK; clear nK; refine hK.out _ _ ⟨(blk_cell aA.out 0).trans rfl, (blk_cell aA.out 1).trans rfl, HS2_⟩ (fun hHeld => ?_); clear hK K; refine norm_ (a' := ?_) ?_ ?_; rotate_left
   ·show Act.put _ (some 34) _ = _; exact zzS
   refine zQ 6 35 (zM 16 1023) ?_
   refine zQ 10 39 (zM 16 2047) ?_
   refine zQ 11 40 (zM 16 4095) ?_
   refine take_ (i := 12) (N := some 41) (v := ?_) (a' := ?_) (zM 16 8191) rfl rfl (take_ofW HT_.out HW_.out (by kernel_rfl)) (fun _ _ _ h => h) (Or.inl ⟨by rfl, ?_⟩) hHeld ?_ ?_; rotate_left
   ·rintro w' ⟨s0, s1, s2⟩; (try simp only [add_plain] at s2); exact zzT
   rotate_left
   ·exact zzS
   refine zQ 13 42 (zM 16 16383) ?_
   refine zQ 14 43 (zM 16 32767) ?_
   refine last_ (i := 15) (N := none) (zM 16 65535) rfl rfl (one_of HT_.out (by kernel_rfl)) (by decide) (fun K hK => ?_); refine skip_ (w1 := ?_) (by rfl) rfl ?_ ?_; rotate_left
   ·go_simp; rfl
   refine hK.out _ _ ?_; clear hK K; refine done_ (done_of HT_.out (by kernel_rfl)) ?_; (try go_wp2); go_roundg k1; (case measure => have := HK1.out; omega); case rel => exact ⟨(lJ), (wrap64 (f8 + 1)), zz5, H', ⟨zz36⟩, ⟨by (with_reducible repeat (first | apply Kd.R_alloc | apply Kd.R_drewN | apply Kd.R_drew)); exact BC.out⟩, ⟨by (with_reducible repeat (first | apply Kd.S_alloc | apply Kd.S_drewN | apply Kd.S_drew)); exact Kd.S_mono (Kd.S_far (p := ⟨go25, ((dD) : Int).toNat, none⟩) (Kd.S_mono i3.out (fun k_ hk => (⟨hk, fun e_ => hk (by rw [e_]; rfl)⟩ : _ ∧ k_ ≠ go25))) (fun _ hk => hk.2) (.int .i64 (wrap64 ((rd bD (dD)) + 1)))) (fun _ hk => hk.1)⟩, ⟨by (with_reducible repeat (first | refine blk_drewN ?_ _ | refine blk_drew ?_ | refine blk_alloc ?_ _)); refine blk_far ?_ (by have h_ := Kd.R_ne cS.out aA.out (by decide); intro e_; exact h_ (by rw [e_]; rfl)) _; (with_reducible repeat (first | refine blk_drewN ?_ _ | refine blk_drew ?_ | refine blk_alloc ?_ _)); exact aA.out⟩, ⟨by repeat (first | (with_reducible first | exact HB.out | apply below_alloc | apply pw_below_drewN | apply below_drew1 | refine below_set ?_ tQ.out | refine below_set ?_ GE101.out) | exact HB.out)⟩⟩
mutual
def laws_FnExactLevelCounts.j0 : Nat → Int → List Int → Bool → List Int → Bool → Bool → Int → List (S101) → Int → List (S57) → Option (Bool)
 | 0, _, _, _, _, _, _, _, _, _, _ => none
 | k + 1, x1, x6, x7, x9, fF, DT, aJ, aI, nS, nR => if DT = true then (none) else ((laws_toGraph.f k aJ aI).bind fun sE => ((laws_eqGraph.f k nS nR sE.1 sE.2).bind fun sO => (if sO = true then ((laws_markGraph.f k nS nR 1).bind fun vK => (if vK.1 < 0 then (laws_FnExactLevelCounts.j1 k x1 x6 x7 x9 true aJ aI) else ((laws_eqIntS.f k x9 x6).bind fun sN => (if sN = true then (laws_FnExactLevelCounts.j1 k x1 x6 x7 x9 (fF != x7) aJ aI) else (laws_FnExactLevelCounts.j1 k x1 x6 x7 x9 true aJ aI))))) else (none))))
def laws_FnExactLevelCounts.j1 : Nat → Int → List Int → Bool → List Int → Bool → Int → List (S101) → Option (Bool)
 | 0, _, _, _, _, _, _, _ => none
 | k + 1, x1, x6, x7, x9, DS, aJ, aI => if DS = true then (none) else ((laws_markIntS.f k x9 1).bind fun lE => ((laws_heldIntS.f k lE.2 1).bind fun mI => (if mI < 0 then (none) else (if mI = lE.1 then ((laws_toGraph.f k aJ aI).bind fun sD => ((impl_LevelCounts.f k sD.1 sD.2 x1).bind fun sC => ((laws_eqIntS.f k sC.1 x6).bind fun sK => (if sK = true then (laws_FnExactLevelCounts.j2 k lE.2 lE.1 (sC.2 != x7)) else (laws_FnExactLevelCounts.j2 k lE.2 lE.1 true))))) else (none)))))
def laws_FnExactLevelCounts.j2 : Nat → List Int → Int → Bool → Option (Bool)
 | 0, _, _, _ => none
 | k + 1, x9, j6, DR => if DR = true then (none) else ((laws_heldIntS.f k x9 1).bind fun mH => (if mH < 0 then (none) else (if mH = j6 then (some true) else (none))))
end
def laws_FnExactLevelCounts.f (k : Nat) (aD : Int) (aC : List (S101)) (a1 : Int) : Option (Bool) := (laws_szGraph.f aD aC 1048576).bind fun aQ => (if aQ < 0 then (some true) else ((laws_toGraph.f k aD aC).bind fun m3 => ((spec_LevelCounts.f k m3.1 m3.2 a1).bind fun iF => ((laws_toGraph.f k aD aC).bind fun iE => ((impl_LevelCounts.f k iE.1 iE.2 a1).bind fun iD => ((laws_eqIntS.f k iD.1 iF.1).bind fun pJ => (if pJ = true then (laws_FnExactLevelCounts.j0 k a1 iF.1 iF.2 iD.1 iD.2 (iD.2 != iF.2) aD aC iE.1 iE.2) else (laws_FnExactLevelCounts.j0 k a1 iF.1 iF.2 iD.1 iD.2 true aD aC iE.1 iE.2))))))))
theorem laws_FnExactLevelCounts.mono_l : ∀ k, (∀ y0 y1 y2 y3 y4 y5 y6 y7 y8 y9, LeO (laws_FnExactLevelCounts.j0 k y0 y1 y2 y3 y4 y5 y6 y7 y8 y9) (laws_FnExactLevelCounts.j0 (k + 1) y0 y1 y2 y3 y4 y5 y6 y7 y8 y9)) ∧ (∀ y0 y1 y2 y3 y4 y5 y6, LeO (laws_FnExactLevelCounts.j1 k y0 y1 y2 y3 y4 y5 y6) (laws_FnExactLevelCounts.j1 (k + 1) y0 y1 y2 y3 y4 y5 y6)) ∧ (∀ y0 y1 y2, LeO (laws_FnExactLevelCounts.j2 k y0 y1 y2) (laws_FnExactLevelCounts.j2 (k + 1) y0 y1 y2))
 | 0 => ⟨fun _ _ _ _ _ _ _ _ _ _ r h => by simp [laws_FnExactLevelCounts.j0] at h, fun _ _ _ _ _ _ _ r h => by simp [laws_FnExactLevelCounts.j1] at h, fun _ _ _ r h => by simp [laws_FnExactLevelCounts.j2] at h⟩
 | k + 1 => by
  obtain ⟨ih0, ih1, ih2⟩ := laws_FnExactLevelCounts.mono_l k
  refine ⟨?_, ?_, ?_⟩
  ·intro y0 y1 y2 y3 y4 y5 y6 y7 y8 y9
   unfold laws_FnExactLevelCounts.j0
   exact zm2
  ·intro y0 y1 y2 y3 y4 y5 y6
   unfold laws_FnExactLevelCounts.j1
   exact zm2
  ·intro y0 y1 y2
   unfold laws_FnExactLevelCounts.j2
   exact zm2
theorem laws_FnExactLevelCounts.mono : ∀ a0 a1 a2 k, LeO (laws_FnExactLevelCounts.f k a0 a1 a2) (laws_FnExactLevelCounts.f (k + 1) a0 a1 a2) := by
 intro a0 a1 a2 k; obtain ⟨ih0, ih1, ih2⟩ := laws_FnExactLevelCounts.mono_l k; unfold laws_FnExactLevelCounts.f; exact zm2
theorem laws_FnExactLevelCounts.calls (k : Nat) (aD : Int) (aH : Option Addr) (aG : Nat) (aC : List (S101)) (a1 : Int) (r : Bool) (w : World) (hr0_1 : Kd.C k101 w aH aC.length aC) (hc0_1 : aC.length ≤ aG) (h : laws_FnExactLevelCounts.f k aD aC a1 = some r) :
  Calls Try.prog 7 #[.agg #[.int .i64 aD, .slice aH aC.length aG], .int .i64 a1] w fun e w' => e = .returned (.bool r) ∧ Below w.heap.size w w' := by
 have hu41 := Try.underlying41; have hu25 := Try.underlying25; have bJ := zK_ hr0_1; have bE := zK_ hc0_1; clear hr0_1 hc0_1; have HB := zK_ (Below.refl w.heap.size w); have H : ((laws_szGraph.f aD aC 1048576).bind fun aQ => (if aQ < 0 then (some true) else ((laws_toGraph.f k aD aC).bind fun m3 => ((spec_LevelCounts.f k m3.1 m3.2 a1).bind fun iF => ((laws_toGraph.f k aD aC).bind fun iE => ((impl_LevelCounts.f k iE.1 iE.2 a1).bind fun iD => ((laws_eqIntS.f k iD.1 iF.1).bind fun pJ => (if pJ = true then (laws_FnExactLevelCounts.j0 k a1 iF.1 iF.2 iD.1 iD.2 (iD.2 != iF.2) aD aC iE.1 iE.2) else (laws_FnExactLevelCounts.j0 k a1 iF.1 iF.2 iD.1 iD.2 true aD aC iE.1 iE.2))))))))) = some r := h; clear h; obtain ⟨aQ, A30, H⟩ := zO_ H; (try dsimp only at H); have A3 := zK_ A30; clear A30; by_cases c4 : aQ < 0
 ·rw [if_pos c4] at H; have dI := decide_eq_true c4; clear c4; obtain rfl := Option.some.inj H; go_enter Try.func7, Try.ntmps7; (go_wp2_with (first | ((with_reducible refine gate_dst (N := 2) rfl ?_); refine box_event ?hg (N := 2) ?hd (cs := #[.int .i64 aD, .slice aH aC.length aG]) (t := 41) ?hr ?_; (case hd => rfl); (case hg => rfl); (case hr => exact zz9); intro aE hg w5 hbox hb; have n_ := zA4 (below_step zz1 hb) hbox (zz10 : w.heap.size ≤ aE) (zz10 : w.heap.size ≤ aE); clear HB; obtain ⟨HB, aA, GW101, GE101⟩ := n_; clear hb hbox hg; have eR := zC20 aA; have eQ := zC21 aA; have eK := blk_frozen aA.out 0; have eJ := blk_frozen aA.out 1) | ((with_reducible refine gate_callee (f := 16) rfl ?_); refine goesL_ (some 18) rfl rfl Try.func16 (by kernel_rfl) rfl #[.agg #[.int .i64 aD, .slice aH aC.length aG], .int .i64 1048576] rfl zz3 ?_; (with_reducible refine (laws_szGraph.calls aD _ _ aC 1048576 aQ _ ?side1 ?side2 A3.out).mono ?_); (case side1 => exact zz6); (case side2 => exact bE.out); rintro e w7 ⟨rfl, hb⟩; refine ⟨_, rfl, ?_⟩; have n_ := zA2 (blk_below (g := aE) (o := .cells #[.int .i64 aD, .slice aH aC.length aG] 41 (0, 0)) zz2 hb) (below_step zz0 hb); clear aA HB; obtain ⟨aA, HB⟩ := n_; clear hb))); go_ret; exact ⟨zz7, zz0⟩
 rw [if_neg c4] at H; have dI := decide_eq_false c4; clear c4; replace H := zO_ H; obtain ⟨⟨bQ, iK⟩, A80, H⟩ := H; dsimp only at H; have A8 := zK_ A80; clear A80; replace H := zO_ H; obtain ⟨⟨iR, iT⟩, A90, H⟩ := H; dsimp only at H; have A9 := zK_ A90; clear A90; replace H := zO_ H; obtain ⟨⟨dT, dF⟩, A100, H⟩ := H; dsimp only at H; have A10 := zK_ A100; clear A100; replace H := zO_ H; obtain ⟨⟨fW, rE⟩, A110, H⟩ := H; dsimp only at H; have A11 := zK_ A110; clear A110; have HC12 := zK_ H; clear H; go_enter Try.func7, Try.ntmps7; (go_upto_region 8 with (first | ((with_reducible refine gate_dst (N := 2) rfl ?_); refine box_event ?hg (N := 2) ?hd (cs := #[.int .i64 aD, .slice aH aC.length aG]) (t := 41) ?hr ?_; (case hd => rfl); (case hg => rfl); (case hr => exact zz9); intro aE hg w13 hbox hb; have n_ := zA4 (below_step zz1 hb) hbox (zz10 : w.heap.size ≤ aE) (zz10 : w.heap.size ≤ aE); clear HB; obtain ⟨HB, aA, GW101, GE101⟩ := n_; clear hb hbox hg; have d3 := zC20 aA; have d2 := zC21 aA; have dZ := blk_frozen aA.out 0; have dY := blk_frozen aA.out 1) | ((with_reducible refine gate_callee (f := 16) rfl ?_); refine goesL_ (some 18) rfl rfl Try.func16 (by kernel_rfl) rfl #[.agg #[.int .i64 aD, .slice aH aC.length aG], .int .i64 1048576] rfl zz3 ?_; (with_reducible refine (laws_szGraph.calls aD _ _ aC 1048576 aQ _ ?side1 ?side2 A3.out).mono ?_); (case side1 => exact zz6); (case side2 => exact bE.out); rintro e w15 ⟨rfl, hb⟩; refine ⟨_, rfl, ?_⟩; have n_ := zA2 (blk_below (g := aE) (o := .cells #[.int .i64 aD, .slice aH aC.length aG] 41 (0, 0)) zz2 hb) (below_step zz0 hb); clear aA HB; obtain ⟨aA, HB⟩ := n_; clear hb; have gY := zC20 aA; have gX := zC21 aA; have gU := blk_frozen aA.out 0; have gT := blk_frozen aA.out 1) | ((with_reducible refine gate_callee (f := 18) rfl ?_); refine goesL_ (some 23) rfl rfl Try.func18 (by kernel_rfl) rfl #[.agg #[.int .i64 aD, .slice aH aC.length aG]] rfl zz3 ?_; (with_reducible refine (laws_toGraph.calls k aD _ _ aC bQ iK _ ?side1 ?side2 A8.out).mono ?_); (case side1 => exact zz6); (case side2 => exact bE.out); rintro e w17 ⟨v105, rfl, ho0, hb⟩; refine ⟨_, rfl, ?_⟩; have n_ := zA3 (Kd.R_lower ho0 (below_size zz0)) (blk_below (g := aE) (o := .cells #[.int .i64 aD, .slice aH aC.length aG] 41 (0, 0)) zz2 hb) (below_step zz0 hb); clear aA HB; obtain ⟨eE, aA, HB⟩ := n_; clear ho0 hb; obtain ⟨Ao18, co18, rV⟩ := Kd.R_slice eE.out; subst rV) | ((with_reducible refine gate_callee (f := 28) rfl ?_); refine goesL_ (some 25) rfl rfl Try.func28 (by kernel_rfl) rfl #[.agg #[.int .i64 bQ, .slice Ao18 iK.length co18], .int .i64 a1] rfl zz3 ?_; (with_reducible refine (spec_LevelCounts.calls k bQ _ _ iK a1 iR iT _ ?side1 ?side2 A9.out).mono ?_); (case side1 => repeat (first | exact (Kd.R_reads' eE.out).2.2 | (with_reducible refine Kd.C_alloc ?_ _) | (with_reducible refine Kd.C_drewN ?_ _) | (with_reducible refine Kd.C_drew ?_))); (case side2 => exact (Kd.R_reads' eE.out).2.1); rintro e w19 ⟨v108, rfl, ho0, hb⟩; refine ⟨_, rfl, ?_⟩; have n_ := zA4 (Kd.R_below (by (with_reducible repeat (first | apply Kd.R_alloc | apply Kd.R_drewN | apply Kd.R_drew)); exact eE.out) hb) (Kd.R_lower ho0 (below_size zz0)) (blk_below (g := aE) (o := .cells #[.int .i64 aD, .slice aH aC.length aG] 41 (0, 0)) zz2 hb) (below_step zz0 hb); clear eE aA HB; obtain ⟨eE, eB, aA, HB⟩ := n_; clear ho0 hb; have gW := zC20 aA; have gV := zC21 aA; have gS := blk_frozen aA.out 0; have gR := blk_frozen aA.out 1) | ((with_reducible refine gate_callee (f := 18) rfl ?_); refine goesL_ (some 29) rfl rfl Try.func18 (by kernel_rfl) rfl #[.agg #[.int .i64 aD, .slice aH aC.length aG]] rfl zz3 ?_; (with_reducible refine (laws_toGraph.calls k aD _ _ aC dT dF _ ?side1 ?side2 A10.out).mono ?_); (case side1 => exact zz6); (case side2 => exact bE.out); rintro e w21 ⟨v113, rfl, ho0, hb⟩; refine ⟨_, rfl, ?_⟩; have n_ := zA5 (Kd.R_elder' (by (with_reducible repeat (first | apply Kd.R_alloc | apply Kd.R_drewN | apply Kd.R_drew)); exact eE.out) (Kd.R_base ho0) hb) (Kd.R_below (by (with_reducible repeat (first | apply Kd.R_alloc | apply Kd.R_drewN | apply Kd.R_drew)); exact eB.out) hb) (Kd.R_lower (Kd.R_new' ho0 (Kd.R_lt (by (with_reducible repeat (first | apply Kd.R_alloc | apply Kd.R_drewN | apply Kd.R_drew)); exact eE.out))) (below_size zz0)) (blk_below (g := aE) (o := .cells #[.int .i64 aD, .slice aH aC.length aG] 41 (0, 0)) zz2 hb) (below_step zz0 hb); clear eE eB aA HB; obtain ⟨eE, eB, jF, aA, HB⟩ := n_; clear ho0 hb) | ((with_reducible refine gate_dst (N := 8) rfl ?_); refine box_event ?hg (N := 8) ?hd (cs := #[.int .i64 0, .slice none 0 0]) (t := 25) ?hr ?_; (case hd => rfl); (case hg => rfl); (case hr => exact zz9); intro fG hg w22 hbox hb; have n_ := zA10 (Kd.R_below (by (with_reducible repeat (first | apply Kd.R_alloc | apply Kd.R_drewN | apply Kd.R_drew)); exact eE.out) hb) (Kd.R_below (by (with_reducible repeat (first | apply Kd.R_alloc | apply Kd.R_drewN | apply Kd.R_drew)); exact eB.out) hb) (Kd.R_below (by (with_reducible repeat (first | apply Kd.R_alloc | apply Kd.R_drewN | apply Kd.R_drew)); exact jF.out) hb) (blk_below (g := aE) (o := .cells #[.int .i64 aD, .slice aH aC.length aG] 41 (0, 0)) zz2 hb) (below_step zz0 hb) hbox (zz13 : w.heap.size ≤ fG) (zz13 : w.heap.size ≤ fG) (by rw [hg]; exact Nat.ne_of_lt (blk_lt (g := aE) (o := .cells #[.int .i64 aD, .slice aH aC.length aG] 41 (0, 0)) zz2) : aE ≠ fG) (by rw [hg]; exact Nat.ne_of_gt (blk_lt (g := aE) (o := .cells #[.int .i64 aD, .slice aH aC.length aG] 41 (0, 0)) zz2) : fG ≠ aE); clear eE eB jF aA HB; obtain ⟨eE, eB, jF, aA, HB, b5, GW115, GE115, iI, kA⟩ := n_; clear hb hbox hg; have uA := kA.out; have tZ := iI.out; have gF := zC20 b5; have gE := zC21 b5; have gD := blk_frozen b5.out 0; have gC := blk_frozen b5.out 1; obtain ⟨Ao25, co25, nI⟩ := Kd.R_slice jF.out; subst nI) | ((with_reducible refine gate_callee (f := 29) rfl ?_); refine goesL_ (some 33) rfl rfl Try.func29 (by kernel_rfl) rfl #[.agg #[.int .i64 dT, .slice Ao25 dF.length co25], .int .i64 a1] rfl zz3 ?_; (with_reducible refine (impl_LevelCounts.calls k dT _ _ dF a1 fW rE _ ?side1 ?side2 A11.out).mono ?_); (case side1 => refine (Kd.R_reads' (e := 57) (base := w.heap.size) (ok := fun k_ => (True ∧ some k_ ≠ (.slice Ao18 iK.length co18 : Value).ownBlock)) (n := dF.length) (c := co25) ?_).2.2; exact zz61); (case side2 => exact (Kd.R_reads' jF.out).2.1); rintro e w26 ⟨v117, rfl, ho0, hb⟩; refine ⟨_, rfl, ?_⟩; have n_ := zA7 (Kd.R_below (by (with_reducible repeat (first | apply Kd.R_alloc | apply Kd.R_drewN | apply Kd.R_drew)); exact (Kd.R_mono (Kd.R_far (p := ⟨fG, 1, none⟩) (Kd.R_far (p := ⟨fG, 0, none⟩) (Kd.R_types eE.out b5.out (by decide)) (fun _ hk => hk.2) (.int .i64 dT)) (fun _ hk => hk.2) (.slice Ao25 dF.length co25)) (fun _ h_ => h_.1))) hb) (Kd.R_elder' zz62 (Kd.R_base ho0) hb) (Kd.R_below zz61 hb) (Kd.R_lower (Kd.R_new' ho0 (Kd.R_lt zz62)) (below_size zz19)) (blk_below (g := aE) (o := .cells #[.int .i64 aD, .slice aH aC.length aG] 41 (0, 0)) (by (with_reducible repeat (first | refine blk_drewN ?_ _ | refine blk_drew ?_ | refine blk_alloc ?_ _)); refine blk_far ?_ iI.out _; (with_reducible repeat (first | refine blk_drewN ?_ _ | refine blk_drew ?_ | refine blk_alloc ?_ _)); refine blk_far ?_ iI.out _; (with_reducible repeat (first | refine blk_drewN ?_ _ | refine blk_drew ?_ | refine blk_alloc ?_ _)); exact aA.out) hb) (blk_below (g := fG) (o := .cells #[.int .i64 dT, .slice Ao25 dF.length co25] 25 (0, 0)) (by (with_reducible repeat (first | refine blk_drewN ?_ _ | refine blk_drew ?_ | refine blk_alloc ?_ _)); refine blk_put (cs := #[.int .i64 dT, .slice none 0 0]) ?_ 1 _ rfl; (with_reducible repeat (first | refine blk_drewN ?_ _ | refine blk_drew ?_ | refine blk_alloc ?_ _)); refine blk_put (cs := #[.int .i64 0, .slice none 0 0]) ?_ 0 _ rfl; (with_reducible repeat (first | refine blk_drewN ?_ _ | refine blk_drew ?_ | refine blk_alloc ?_ _)); exact b5.out) hb) (below_step zz19 hb); clear eE eB jF aA b5 HB; obtain ⟨eE, eB, jF, kE, aA, b5, HB⟩ := n_; clear ho0 hb))); (try simp only [Act.put, List.setIfInBounds_toArray, List.set_cons_zero, List.set_cons_succ]); go_cut [44] (fun v44 wc => ∃ (kq : Nat) (lM : Bool), v44 = .bool lM ∧ Aside0 (laws_FnExactLevelCounts.j0 kq a1 iR iT fW rE lM aD aC dT dF = some r) ∧ Aside0 (kq ≤ k) ∧ Aside0 (Kd.R (Kd.int .i64) 3 wc w.heap.size (fun k_ => some k_ ≠ (v117 : Value).ownBlock) v108 iR) ∧ Aside0 (Kd.R (Kd.int .i64) 3 wc w.heap.size (fun k_ => some k_ ≠ (v108 : Value).ownBlock) v117 fW) ∧ Aside0 (Kd.R k57 57 wc w.heap.size (fun _ => True) (.slice Ao25 dF.length co25) dF) ∧ Aside0 (wc.heap[aE]? = some (.cells #[.int .i64 aD, (.slice aH aC.length aG)] 41 (0, 0))) ∧ Aside0 (wc.heap[fG]? = some (.cells #[.int .i64 dT, (.slice Ao25 dF.length co25)] 25 (0, 0))) ∧ Aside0 (Below w.heap.size w wc))
 case first =>
  have H := HC12.out; clear HC12; obtain ⟨pJ, A270, H⟩ := zO_ H; (try dsimp only at H); have A27 := zK_ A270; clear A270; by_cases c28 : pJ = true
  ·subst c28; rw [if_pos rfl] at H; have H' := zK_ H; clear H; obtain ⟨Ao29, co29, AU⟩ := Kd.R_slice kE.out; subst AU; obtain ⟨Ao30, co30, AT⟩ := Kd.R_slice eB.out; subst AT; (go_wp2_with (first | ((with_reducible refine gate_callee (f := 30) rfl ?_); refine goesL_ (some 38) rfl rfl Try.func30 (by kernel_rfl) rfl #[.slice Ao29 fW.length co29, .slice Ao30 iR.length co30] rfl zz3 ?_; (with_reducible refine (laws_eqIntS.calls k _ _ fW _ _ iR true _ ?side1 ?side2 ?side3 ?side4 A27.out).mono ?_); (case side1 => repeat (first | exact (Kd.R_reads' kE.out).2.2 | (with_reducible refine Kd.C_alloc ?_ _) | (with_reducible refine Kd.C_drewN ?_ _) | (with_reducible refine Kd.C_drew ?_))); (case side2 => exact (Kd.R_reads' kE.out).2.1); (case side3 => repeat (first | exact (Kd.R_reads' eB.out).2.2 | (with_reducible refine Kd.C_alloc ?_ _) | (with_reducible refine Kd.C_drewN ?_ _) | (with_reducible refine Kd.C_drew ?_))); (case side4 => exact (Kd.R_reads' eB.out).2.1); rintro e w' ⟨rfl, ⟨nd, rfl⟩⟩; refine ⟨_, rfl, ?_⟩))); (go_meet); case rel => exact ⟨_, ((rE != iT)), zz5, H', ⟨by first | omega | exact Nat.le_refl _⟩, ⟨by (with_reducible repeat (first | apply Kd.R_alloc | apply Kd.R_drewN | apply Kd.R_drew)); exact Kd.R_mono eB.out (fun _ hk => hk.2)⟩, ⟨by (with_reducible repeat (first | apply Kd.R_alloc | apply Kd.R_drewN | apply Kd.R_drew)); exact Kd.R_mono kE.out (fun _ hk => hk.2)⟩, ⟨by (with_reducible repeat (first | apply Kd.R_alloc | apply Kd.R_drewN | apply Kd.R_drew)); exact Kd.R_mono jF.out (fun _ hk => trivial)⟩, ⟨zz2⟩, ⟨zz41⟩, ⟨zz19⟩⟩
  replace c28 := Bool.eq_false_iff.mpr c28; subst c28; rw [if_neg (show ¬ (false = true) by decide)] at H; have H' := zK_ H; clear H; obtain ⟨Ao31, co31, tE⟩ := Kd.R_slice kE.out; subst tE; obtain ⟨Ao32, co32, AS⟩ := Kd.R_slice eB.out; subst AS; (go_wp2_with (first | ((with_reducible refine gate_callee (f := 30) rfl ?_); refine goesL_ (some 38) rfl rfl Try.func30 (by kernel_rfl) rfl #[.slice Ao31 fW.length co31, .slice Ao32 iR.length co32] rfl zz3 ?_; (with_reducible refine (laws_eqIntS.calls k _ _ fW _ _ iR false _ ?side1 ?side2 ?side3 ?side4 A27.out).mono ?_); (case side1 => repeat (first | exact (Kd.R_reads' kE.out).2.2 | (with_reducible refine Kd.C_alloc ?_ _) | (with_reducible refine Kd.C_drewN ?_ _) | (with_reducible refine Kd.C_drew ?_))); (case side2 => exact (Kd.R_reads' kE.out).2.1); (case side3 => repeat (first | exact (Kd.R_reads' eB.out).2.2 | (with_reducible refine Kd.C_alloc ?_ _) | (with_reducible refine Kd.C_drewN ?_ _) | (with_reducible refine Kd.C_drew ?_))); (case side4 => exact (Kd.R_reads' eB.out).2.1); rintro e w' ⟨rfl, ⟨nd, rfl⟩⟩; refine ⟨_, rfl, ?_⟩))); (go_meet); case rel => exact ⟨_, (true), zz5, H', ⟨by first | omega | exact Nat.le_refl _⟩, ⟨by (with_reducible repeat (first | apply Kd.R_alloc | apply Kd.R_drewN | apply Kd.R_drew)); exact Kd.R_mono eB.out (fun _ hk => hk.2)⟩, ⟨by (with_reducible repeat (first | apply Kd.R_alloc | apply Kd.R_drewN | apply Kd.R_drew)); exact Kd.R_mono kE.out (fun _ hk => hk.2)⟩, ⟨by (with_reducible repeat (first | apply Kd.R_alloc | apply Kd.R_drewN | apply Kd.R_drew)); exact Kd.R_mono jF.out (fun _ hk => trivial)⟩, ⟨zz2⟩, ⟨zz41⟩, ⟨zz19⟩⟩
 case rest =>
  clear HC12; (try clear c1); (try clear c2); (try clear p2); (try clear c3); (try clear c4); (try clear dI); (try clear c7); (try clear c16); (try clear c18); (try clear c23); (try clear c28); (try clear c29); (try clear c30); (try clear d3); (try clear d2); (try clear gY); (try clear gX); (try clear gW); (try clear gV); (try clear gF); (try clear gE); (try clear eR); (try clear eQ); (try clear dZ); (try clear dY); (try clear gU); (try clear gT); (try clear gS); (try clear gR); (try clear gD); (try clear gC); (try clear eK); (try clear eJ); obtain ⟨kq, lM, rfl, HA, HJ11, eT, dO, bF, aA, b5, HB⟩ := hcut
  cases kq with
  | zero => exact absurd HA.out (by simp [laws_FnExactLevelCounts.j0])
  | succ kj11 =>
   have H := HA.out; clear HA; simp only [laws_FnExactLevelCounts.j0] at H; by_cases c33 : lM = true
   ·subst c33; rw [if_pos rfl] at H; exact absurd H (by simp)
   replace c33 := Bool.eq_false_iff.mpr c33; subst c33; rw [if_neg (show ¬ (false = true) by decide)] at H; replace H := zO_ H; obtain ⟨⟨sQ, sP⟩, A340, H⟩ := H; dsimp only at H; have A34 := zK_ A340; clear A340; obtain ⟨sO, A350, H⟩ := zO_ H; (try dsimp only at H); have A35 := zK_ A350; clear A350; by_cases c36 : sO = true; rotate_left
   ·replace c36 := Bool.eq_false_iff.mpr c36; subst c36; rw [if_neg (show ¬ (false = true) by decide)] at H; exact absurd H (by simp)
   subst c36; rw [if_pos rfl] at H; replace H := zO_ H; obtain ⟨⟨tW, nC⟩, A370, H⟩ := H; dsimp only at H; have A37 := zK_ A370; clear A370; have HC38 := zK_ H; clear H; (try go_wp2); have n_ := zA6 (Kd.R_drew eT.out) (Kd.R_drew dO.out) (Kd.R_drew bF.out) (blk_drew aA.out) (blk_drew b5.out) (below_drew1 HB.out); clear eT dO bF aA b5 HB; obtain ⟨eT, dO, bF, aA, b5, HB⟩ := n_; refine start_ (n := 5) (S := fun w' => w'.cell? ⟨fG, 0, none⟩ = some (.int .i64 dT) ∧ w'.cell? ⟨fG, 1, none⟩ = some (.slice Ao25 dF.length co25) ∧ w'.cell? ⟨aE, 0, none⟩ = some (.int .i64 aD) ∧ w'.cell? ⟨aE, 1, none⟩ = some (.slice aH aC.length aG)) (ds := []) (zM 5 0) (by kernel_rfl) rfl rfl ⟨(blk_cell b5.out 0).trans rfl, (blk_cell b5.out 1).trans rfl, (blk_cell aA.out 0).trans rfl, (blk_cell aA.out 1).trans rfl⟩ (fun hHeld => ?_); generalize wc.drew = w39 at eT dO bF aA b5 HB hHeld ⊢; refine take_ (i := 0) (N := some 45) (v := ?_) (a' := ?_) (zM 5 1) rfl rfl (by kernel_rfl) (fun _ _ _ h => h) (Or.inl ⟨by rfl, ?_⟩) hHeld ?_ ?_; rotate_left
   ·rintro w' ⟨s0, s1, s2, s3⟩; exact zzT
   rotate_left
   ·exact zzS
   refine take_ (i := 1) (N := some 46) (v := ?_) (a' := ?_) (zM 5 3) rfl rfl (by kernel_rfl) (fun _ _ _ h => h) (Or.inl ⟨by rfl, ?_⟩) hHeld ?_ ?_; rotate_left
   ·rintro w' ⟨s0, s1, s2, s3⟩; exact zzT
   rotate_left
   ·exact zzS
   refine one_ (i := 2) (N := some 47) (zM 5 7) rfl rfl (by kernel_rfl) (by decide) (fun K hK => ?_); refine goes_ Try.func18 (by kernel_rfl) rfl #[.agg #[.int .i64 aD, .slice aH aC.length aG]] (by rfl) rfl rfl zz3 ?_; (with_reducible refine (laws_toGraph.calls kj11 aD _ _ aC sQ sP _ ?side1 ?side2 A34.out).mono ?_); (case side1 => exact zz6); (case side2 => exact bE.out); rintro e w40 ⟨v123, rfl, ho0, hb⟩; refine ⟨_, rfl, ?_⟩; have n_ := zA7 (Kd.R_below zz55 hb) (Kd.R_below zz56 hb) (Kd.R_elder' zz44 (Kd.R_base ho0) hb) (Kd.R_lower (Kd.R_new' ho0 (Kd.R_lt zz44)) (below_size zz19)) (blk_below (g := aE) (o := .cells #[.int .i64 aD, .slice aH aC.length aG] 41 (0, 0)) zz2 hb) (blk_below (g := fG) (o := .cells #[.int .i64 dT, .slice Ao25 dF.length co25] 25 (0, 0)) zz41 hb) (below_step zz19 hb); clear eT dO bF aA b5 HB; obtain ⟨eT, dO, bF, j4, aA, b5, HB⟩ := n_; clear ho0 hb; obtain ⟨Ao41, co41, uO⟩ := Kd.R_slice j4.out; (first | subst uO | (injection uO with f1_ f2_ f3_; have f4_ := f1_.symm; have f5_ := f3_.symm; clear f1_ f2_ f3_; subst f4_; subst f5_)); refine hK.out _ _ ⟨(blk_cell b5.out 0).trans rfl, (blk_cell b5.out 1).trans rfl, (blk_cell aA.out 0).trans rfl, (blk_cell aA.out 1).trans rfl⟩ (fun hHeld => ?_); clear hK K; refine norm_ (a' := ?_) ?_ ?_; rotate_left
   ·show Act.put _ (some 47) _ = _; exact zzS
   refine one_ (i := 3) (N := some 48) (zM 5 15) rfl rfl (by kernel_rfl) (by decide) (fun K hK => ?_); refine goes_ Try.func20 (by kernel_rfl) rfl #[.agg #[.int .i64 dT, .slice Ao25 dF.length co25], .agg #[.int .i64 sQ, .slice Ao41 sP.length co41]] (by rfl) rfl rfl zz3 ?_; (with_reducible refine (laws_eqGraph.calls kj11 dT _ _ dF sQ _ _ sP true _ ?side1 ?side2 ?side3 ?side4 A35.out).mono ?_); (case side1 => repeat (first | exact (Kd.R_reads' bF.out).2.2 | (with_reducible refine Kd.C_alloc ?_ _) | (with_reducible refine Kd.C_drewN ?_ _) | (with_reducible refine Kd.C_drew ?_))); (case side2 => exact (Kd.R_reads' bF.out).2.1); (case side3 => repeat (first | exact (Kd.R_reads' j4.out).2.2 | (with_reducible refine Kd.C_alloc ?_ _) | (with_reducible refine Kd.C_drewN ?_ _) | (with_reducible refine Kd.C_drew ?_))); (case side4 => exact (Kd.R_reads' j4.out).2.1); rintro e w42 ⟨rfl, hb⟩; refine ⟨_, rfl, ?_⟩; have n_ := zA7 (Kd.R_below zz55 hb) (Kd.R_below zz56 hb) (Kd.R_below zz44 hb) (Kd.R_below (by (with_reducible repeat (first | apply Kd.R_alloc | apply Kd.R_drewN | apply Kd.R_drew)); exact j4.out) hb) (blk_below (g := aE) (o := .cells #[.int .i64 aD, .slice aH aC.length aG] 41 (0, 0)) zz2 hb) (blk_below (g := fG) (o := .cells #[.int .i64 dT, .slice Ao25 dF.length co25] 25 (0, 0)) zz41 hb) (below_step zz19 hb); clear eT dO bF j4 aA b5 HB; obtain ⟨eT, dO, bF, j4, aA, b5, HB⟩ := n_; clear hb; refine hK.out _ _ ⟨(blk_cell b5.out 0).trans rfl, (blk_cell b5.out 1).trans rfl, (blk_cell aA.out 0).trans rfl, (blk_cell aA.out 1).trans rfl⟩ (fun hHeld => ?_); clear hK K; refine norm_ (a' := ?_) ?_ ?_; rotate_left
   ·show Act.put _ (some 48) _ = _; exact zzS
   refine pure_ (i := 4) (N := some 49) (v := ?_) (a' := ?_) (zM 5 31) rfl rfl (by kernel_rfl) (fun _ _ _ h => h) (Or.inl ⟨by rfl, ?_⟩) ?_ ?_; rotate_left
   ·intro w'; exact zzT
   rotate_left
   ·exact zzS
   refine done_ (by kernel_rfl) ?_; have CJ := kA.out; have BR := iI.out; have oJ := zC20 b5; have oI := zC21 b5; have nZ := blk_frozen b5.out 0; have nY := blk_frozen b5.out 1; (go_upto_region 14 with (first | ((with_reducible refine gate_callee (f := 21) rfl ?_); refine goesL_ (some 52) rfl rfl Try.func21 (by kernel_rfl) rfl #[.agg #[.int .i64 dT, .slice Ao25 dF.length co25], .int .i64 1] rfl zz3 ?_; (with_reducible refine (laws_markGraph.calls kj11 dT (fun k_ => some k_ = (.slice Ao25 dF.length co25 : Value).ownBlock) (.slice Ao25 dF.length co25) dF 1 tW nC w _ ?side1 ?side2 A37.out).mono ?_); (case side1 => repeat (first | (with_reducible first | exact HB.out | apply below_alloc | apply pw_below_drewN | apply below_drew1 | refine below_set ?_ GE101.out | refine below_set ?_ GE115.out) | exact HB.out)); (case side2 => exact Kd.R_tight rfl bF.out); rintro e w45 ⟨rfl, hy0, hb, hkp⟩; refine ⟨_, rfl, ?_⟩; have n_ := zA7 (Kd.R_mono (ok' := fun k_ => some k_ ≠ (v117 : Value).ownBlock) (Kd.R_keptB ((Kd.R_apart' eT.out (Kd.R_typed bF.out) (by decide))) hkp (fun k_ hk_ hs_ => (hk_.2) hs_)) (fun k_ hk_ => hk_.1.1)) (Kd.R_mono (ok' := fun k_ => some k_ ≠ (v108 : Value).ownBlock) (Kd.R_keptB ((Kd.R_apart' dO.out (Kd.R_typed bF.out) (by decide))) hkp (fun k_ hk_ hs_ => (hk_.2) hs_)) (fun k_ hk_ => hk_.1.1)) (Kd.R_reok rfl hy0 (fun k_ e_ => bF.out.1 k_ e_)) (blk_kept zz2 hkp (fun hs_ => (fun e_ => (Kd.R_ne bF.out aA.out (by decide)) e_) hs_)) (blk_kept zz41 hkp (fun hs_ => (fun e_ => (Kd.R_ne bF.out b5.out (by decide)) e_) hs_)) (Kd.R_mono (ok' := fun k_ => some k_ ≠ (.slice Ao25 dF.length co25 : Value).ownBlock) (Kd.R_keptB (j4.out) hkp (fun k_ hk_ hs_ => (hk_.2) hs_)) (fun k_ hk_ => hk_.1.2)) hb; clear eT dO bF aA b5 j4 HB; obtain ⟨eT, dO, bF, aA, b5, j4, HB⟩ := n_; clear hy0 hb hkp))); (try simp only [Act.put, List.setIfInBounds_toArray, List.set_cons_zero, List.set_cons_succ]); go_cut [65] (fun v65 wc => ∃ (kq : Nat) (lL : Bool), v65 = .bool lL ∧ Aside0 (laws_FnExactLevelCounts.j1 kq a1 iR iT fW lL aD aC = some r) ∧ Aside0 (kq ≤ kj11) ∧ Aside0 (Kd.R (Kd.int .i64) 3 wc w.heap.size (fun k_ => some k_ ≠ (v117 : Value).ownBlock) v108 iR) ∧ Aside0 (Kd.R (Kd.int .i64) 3 wc w.heap.size (fun k_ => some k_ ≠ (v108 : Value).ownBlock) v117 fW) ∧ Aside0 (Kd.R k57 57 wc w.heap.size (fun _ => True) (.slice Ao25 dF.length co25) nC) ∧ Aside0 (wc.heap[aE]? = some (.cells #[.int .i64 aD, (.slice aH aC.length aG)] 41 (0, 0))) ∧ Aside0 (wc.heap[fG]? = some (.cells #[.int .i64 dT, (.slice Ao25 dF.length co25)] 25 (0, 0))) ∧ Aside0 (Below w.heap.size w wc))
   case first =>
    have H := HC38.out; clear HC38; by_cases c46 : tW < 0
    ·rw [if_pos c46] at H; have kX := decide_eq_true c46; clear c46; (first | rw [kX] | (simp only [i64_w, i32_w]; rw [kX]) | skip); have H' := zK_ H; clear H; go_wp2; (go_meet); case rel => exact ⟨_, (true), zz5, H', ⟨by have := HJ11.out; first | omega | exact Nat.le_refl _⟩, ⟨by (with_reducible repeat (first | apply Kd.R_alloc | apply Kd.R_drewN | apply Kd.R_drew)); exact eT.out⟩, ⟨by (with_reducible repeat (first | apply Kd.R_alloc | apply Kd.R_drewN | apply Kd.R_drew)); exact dO.out⟩, ⟨by (with_reducible repeat (first | apply Kd.R_alloc | apply Kd.R_drewN | apply Kd.R_drew)); exact Kd.R_mono bF.out (fun _ hk => trivial)⟩, ⟨zz2⟩, ⟨zz41⟩, ⟨zz19⟩⟩
    rw [if_neg c46] at H; have kX := decide_eq_false c46; clear c46; (first | rw [kX] | (simp only [i64_w, i32_w]; rw [kX]) | skip); obtain ⟨sN, A470, H⟩ := zO_ H; (try dsimp only at H); have A47 := zK_ A470; clear A470; by_cases c48 : sN = true
    ·subst c48; rw [if_pos rfl] at H; have H' := zK_ H; clear H; obtain ⟨Ao49, co49, AQ⟩ := Kd.R_slice dO.out; subst AQ; obtain ⟨Ao50, co50, AO⟩ := Kd.R_slice eT.out; subst AO; (go_wp2_with (first | (go_at_call 30; (with_reducible refine (laws_eqIntS.calls kj11 _ _ fW _ _ iR true _ ?side1 ?side2 ?side3 ?side4 A47.out).mono ?_); (case side1 => exact zz47); (case side2 => exact (Kd.R_reads' dO.out).2.1); (case side3 => exact zz48); (case side4 => exact (Kd.R_reads' eT.out).2.1); rintro e w' ⟨rfl, ⟨nd, rfl⟩⟩))); (go_meet); case rel => exact ⟨_, ((rE != iT)), zz5, H', ⟨by have := HJ11.out; first | omega | exact Nat.le_refl _⟩, ⟨by (with_reducible repeat (first | apply Kd.R_alloc | apply Kd.R_drewN | apply Kd.R_drew)); exact eT.out⟩, ⟨by (with_reducible repeat (first | apply Kd.R_alloc | apply Kd.R_drewN | apply Kd.R_drew)); exact dO.out⟩, ⟨by (with_reducible repeat (first | apply Kd.R_alloc | apply Kd.R_drewN | apply Kd.R_drew)); exact Kd.R_mono bF.out (fun _ hk => trivial)⟩, ⟨zz2⟩, ⟨zz41⟩, ⟨zz19⟩⟩
    replace c48 := Bool.eq_false_iff.mpr c48; subst c48; rw [if_neg (show ¬ (false = true) by decide)] at H; have H' := zK_ H; clear H; obtain ⟨Ao51, co51, AM⟩ := Kd.R_slice dO.out; subst AM; obtain ⟨Ao52, co52, AK⟩ := Kd.R_slice eT.out; subst AK; (go_wp2_with (first | (go_at_call 30; (with_reducible refine (laws_eqIntS.calls kj11 _ _ fW _ _ iR false _ ?side1 ?side2 ?side3 ?side4 A47.out).mono ?_); (case side1 => exact zz47); (case side2 => exact (Kd.R_reads' dO.out).2.1); (case side3 => exact zz48); (case side4 => exact (Kd.R_reads' eT.out).2.1); rintro e w' ⟨rfl, ⟨nd, rfl⟩⟩))); (go_meet); case rel => exact ⟨_, (true), zz5, H', ⟨by have := HJ11.out; first | omega | exact Nat.le_refl _⟩, ⟨by (with_reducible repeat (first | apply Kd.R_alloc | apply Kd.R_drewN | apply Kd.R_drew)); exact eT.out⟩, ⟨by (with_reducible repeat (first | apply Kd.R_alloc | apply Kd.R_drewN | apply Kd.R_drew)); exact dO.out⟩, ⟨by (with_reducible repeat (first | apply Kd.R_alloc | apply Kd.R_drewN | apply Kd.R_drew)); exact Kd.R_mono bF.out (fun _ hk => trivial)⟩, ⟨zz2⟩, ⟨zz41⟩, ⟨zz19⟩⟩
   case rest =>
    clear HC38; (try clear c1); (try clear c2); (try clear p2); (try clear c3); (try clear c4); (try clear dI); (try clear c7); (try clear c16); (try clear c18); (try clear c20); (try clear c21); (try clear c23); (try clear c28); (try clear c29); (try clear c30); (try clear c33); (try clear c36); (try clear c43); (try clear c46); (try clear kX); (try clear c48); (try clear d3); (try clear d2); (try clear gY); (try clear gX); (try clear gW); (try clear gV); (try clear gF); (try clear gE); (try clear oJ); (try clear oI); (try clear eR); (try clear eQ); (try clear dZ); (try clear dY); (try clear gU); (try clear gT); (try clear gS); (try clear gR); (try clear gD); (try clear gC); (try clear nZ); (try clear nY); (try clear eK); (try clear eJ); (try clear p2); obtain ⟨kq, lL, rfl, HA, HJ37, eT, dO, bF, aA, b5, HB⟩ := hcut; have cB := (Kd.R_reads' bF.out).1; rw [cB] at bF; (try simp only [cB]); (try simp only [cB] at aA); (try simp only [cB] at b5); (try simp only [cB] at eT); (try simp only [cB] at dO)
    cases kq with
    | zero => exact absurd HA.out (by simp [laws_FnExactLevelCounts.j1])
    | succ kj37 =>
     have H := HA.out; clear HA; simp only [laws_FnExactLevelCounts.j1] at H; by_cases c53 : lL = true
     ·subst c53; rw [if_pos rfl] at H; exact absurd H (by simp)
     replace c53 := Bool.eq_false_iff.mpr c53; subst c53; rw [if_neg (show ¬ (false = true) by decide)] at H; replace H := zO_ H; obtain ⟨⟨mJ, lQ⟩, A540, H⟩ := H; dsimp only at H; have A54 := zK_ A540; clear A540; obtain ⟨mI, A550, H⟩ := zO_ H; (try dsimp only at H); have A55 := zK_ A550; clear A550; by_cases c56 : mI < 0
     ·rw [if_pos c56] at H; exact absurd H (by simp)
     rw [if_neg c56] at H; have uT := decide_eq_false c56; clear c56; by_cases c57 : mI = mJ; rotate_left
     ·rw [if_neg c57] at H; exact absurd H (by simp)
     rw [if_pos c57] at H; have uS : (mI == mJ) = true := beq_iff_eq.mpr c57; have uR : (mI != mJ) = false := bne_eq_false_iff_eq.mpr c57; clear c57; replace H := zO_ H; obtain ⟨⟨sM, sL⟩, A580, H⟩ := H; dsimp only at H; have A58 := zK_ A580; clear A580; replace H := zO_ H; obtain ⟨⟨pI, tV⟩, A590, H⟩ := H; dsimp only at H; have A59 := zK_ A590; clear A590; have HC60 := zK_ H; clear H; obtain ⟨Ao61, co61, AG⟩ := Kd.R_slice dO.out; subst AG; (go_upto_region 25 with (first | ((with_reducible refine gate_callee (f := 31) rfl ?_); refine goesL_ (some 68) rfl rfl Try.func31 (by kernel_rfl) rfl #[.slice Ao61 fW.length co61, .int .i64 1] rfl zz3 ?_; (with_reducible refine (laws_markIntS.calls kj37 (fun k_ => some k_ = (.slice Ao61 fW.length co61 : Value).ownBlock) (.slice Ao61 fW.length co61) fW 1 mJ lQ w _ ?side1 ?side2 A54.out).mono ?_); (case side1 => repeat (first | (with_reducible first | exact HB.out | apply below_alloc | apply pw_below_drewN | apply below_drew1 | refine below_set ?_ GE101.out | refine below_set ?_ GE115.out) | exact HB.out)); (case side2 => exact Kd.R_tight rfl dO.out); rintro e w62 ⟨rfl, hy0, hb, hkp⟩; refine ⟨_, rfl, ?_⟩; have n_ := zA6 (Kd.R_mono (ok' := fun k_ => some k_ ≠ (.slice Ao61 fW.length co61 : Value).ownBlock) (Kd.R_keptB (eT.out) hkp (fun k_ hk_ hs_ => (hk_) hs_)) (fun k_ hk_ => hk_.1)) (Kd.R_reok rfl hy0 (fun k_ e_ => dO.out.1 k_ e_)) (Kd.R_mono (ok' := fun k_ => True) (Kd.R_keptB ((Kd.R_apart' bF.out (Kd.R_typed dO.out) (by decide))) hkp (fun k_ hk_ hs_ => (hk_.2) hs_)) (fun k_ hk_ => trivial)) (blk_kept zz2 hkp (fun hs_ => (fun e_ => (Kd.R_ne dO.out aA.out (by decide)) e_) hs_)) (blk_kept zz41 hkp (fun hs_ => (fun e_ => (Kd.R_ne dO.out b5.out (by decide)) e_) hs_)) hb; clear eT dO bF aA b5 HB; obtain ⟨eT, dO, bF, aA, b5, HB⟩ := n_; clear hy0 hb hkp) | ((with_reducible refine gate_callee (f := 32) rfl ?_); refine goesL_ (some 71) rfl rfl Try.func32 (by kernel_rfl) rfl #[.slice Ao61 lQ.length co61, .int .i64 1] rfl (by (try simp only [List.map_toArray, List.map_cons, List.map_nil]); first | done | (rw [show lQ.length = fW.length from (Kd.R_reads' dO.out).1.symm] <;> rfl) | rfl | (simp only [List.length_drop, List.length_take]; rfl)) ?_; (with_reducible refine (laws_heldIntS.calls kj37 _ _ lQ 1 mI _ ?side1 ?side2 A55.out).mono ?_); (case side1 => exact zz47); (case side2 => rw [show lQ.length = fW.length from (Kd.R_reads' dO.out).1.symm]; exact (Kd.R_reads' dO.out).2.1); rintro e w' ⟨rfl, ⟨nd, rfl⟩⟩; refine ⟨_, rfl, ?_⟩; have CE := iI.out; have BM := kA.out; have rO := zC20 aA; have rN := zC21 aA; have rG := blk_frozen aA.out 0; have rF := blk_frozen aA.out 1) | ((with_reducible refine gate_callee (f := 18) rfl ?_); refine goesL_ (some 79) rfl rfl Try.func18 (by kernel_rfl) rfl #[.agg #[.int .i64 aD, .slice aH aC.length aG]] rfl zz3 ?_; (with_reducible refine (laws_toGraph.calls kj37 aD _ _ aC sM sL _ ?side1 ?side2 A58.out).mono ?_); (case side1 => repeat (first | exact (Kd.C_below bJ.out zz19) | (with_reducible refine Kd.C_alloc ?_ _) | (with_reducible refine Kd.C_drewN ?_ _) | (with_reducible refine Kd.C_drew ?_))); (case side2 => exact bE.out); rintro e w65 ⟨v134, rfl, ho0, hb⟩; refine ⟨_, rfl, ?_⟩; have n_ := zA7 (Kd.R_below zz55 hb) (Kd.R_below zz56 hb) (Kd.R_elder' zz44 (Kd.R_base ho0) hb) (Kd.R_lower (Kd.R_new' ho0 (Kd.R_lt zz44)) (below_size zz19)) (blk_below (g := aE) (o := .cells #[.int .i64 aD, .slice aH aC.length aG] 41 (0, 0)) zz2 hb) (blk_below (g := fG) (o := .cells #[.int .i64 dT, .slice Ao25 nC.length co25] 25 (0, 0)) zz41 hb) (below_step zz19 hb); clear eT dO bF aA b5 HB; obtain ⟨eT, dO, bF, lI, aA, b5, HB⟩ := n_; clear ho0 hb; obtain ⟨Ao66, co66, AC⟩ := Kd.R_slice lI.out; subst AC) | ((with_reducible refine gate_callee (f := 29) rfl ?_); refine goesL_ (some 81) rfl rfl Try.func29 (by kernel_rfl) rfl #[.agg #[.int .i64 sM, .slice Ao66 sL.length co66], .int .i64 a1] rfl zz3 ?_; (with_reducible refine (impl_LevelCounts.calls kj37 sM _ _ sL a1 pI tV _ ?side1 ?side2 A59.out).mono ?_); (case side1 => repeat (first | exact (Kd.R_reads' lI.out).2.2 | (with_reducible refine Kd.C_alloc ?_ _) | (with_reducible refine Kd.C_drewN ?_ _) | (with_reducible refine Kd.C_drew ?_))); (case side2 => exact (Kd.R_reads' lI.out).2.1); rintro e w67 ⟨v137, rfl, ho0, hb⟩; refine ⟨_, rfl, ?_⟩; have n_ := zA8 (Kd.R_elder' zz55 (Kd.R_base ho0) hb) (Kd.R_elder' zz56 (Kd.R_base ho0) hb) (Kd.R_below zz44 hb) (Kd.R_below (by (with_reducible repeat (first | apply Kd.R_alloc | apply Kd.R_drewN | apply Kd.R_drew)); exact lI.out) hb) (Kd.R_lower (Kd.R_new' (Kd.R_new' ho0 (Kd.R_lt zz55)) (Kd.R_lt zz56)) (below_size zz19)) (blk_below (g := aE) (o := .cells #[.int .i64 aD, .slice aH aC.length aG] 41 (0, 0)) zz2 hb) (blk_below (g := fG) (o := .cells #[.int .i64 dT, .slice Ao25 nC.length co25] 25 (0, 0)) zz41 hb) (below_step zz19 hb); clear eT dO bF lI aA b5 HB; obtain ⟨eT, dO, bF, lI, lH, aA, b5, HB⟩ := n_; clear ho0 hb))); (try simp only [Act.put, List.setIfInBounds_toArray, List.set_cons_zero, List.set_cons_succ]); go_cut [92] (fun v92 wc => ∃ (kq : Nat) (lK : Bool), v92 = .bool lK ∧ Aside0 (laws_FnExactLevelCounts.j2 kq lQ mJ lK = some r) ∧ Aside0 (kq ≤ kj37) ∧ Aside0 (Kd.R (Kd.int .i64) 3 wc w.heap.size (fun _ => True) (.slice Ao61 fW.length co61) lQ) ∧ Aside0 (Kd.R k57 57 wc w.heap.size (fun _ => True) (.slice Ao25 nC.length co25) nC) ∧ Aside0 (wc.heap[aE]? = some (.cells #[.int .i64 aD, (.slice aH aC.length aG)] 41 (0, 0))) ∧ Aside0 (wc.heap[fG]? = some (.cells #[.int .i64 dT, (.slice Ao25 nC.length co25)] 25 (0, 0))) ∧ Aside0 (Below w.heap.size w wc))
     case first =>
      have H := HC60.out; clear HC60; obtain ⟨sK, A680, H⟩ := zO_ H; (try dsimp only at H); have A68 := zK_ A680; clear A680; by_cases c69 : sK = true
      ·subst c69; rw [if_pos rfl] at H; have H' := zK_ H; clear H; obtain ⟨Ao70, co70, AB⟩ := Kd.R_slice lH.out; subst AB; obtain ⟨Ao71, co71, AA⟩ := Kd.R_slice eT.out; subst AA; (go_wp2_with (first | ((with_reducible refine gate_callee (f := 30) rfl ?_); refine goesL_ (some 86) rfl rfl Try.func30 (by kernel_rfl) rfl #[.slice Ao70 pI.length co70, .slice Ao71 iR.length co71] rfl zz3 ?_; (with_reducible refine (laws_eqIntS.calls kj37 _ _ pI _ _ iR true _ ?side1 ?side2 ?side3 ?side4 A68.out).mono ?_); (case side1 => repeat (first | exact (Kd.R_reads' lH.out).2.2 | (with_reducible refine Kd.C_alloc ?_ _) | (with_reducible refine Kd.C_drewN ?_ _) | (with_reducible refine Kd.C_drew ?_))); (case side2 => exact (Kd.R_reads' lH.out).2.1); (case side3 => exact zz48); (case side4 => exact (Kd.R_reads' eT.out).2.1); rintro e w' ⟨rfl, ⟨nd, rfl⟩⟩; refine ⟨_, rfl, ?_⟩))); (go_meet); case rel => exact ⟨_, ((tV != iT)), zz5, H', ⟨by have := HJ11.out; have := HJ37.out; first | omega | exact Nat.le_refl _⟩, ⟨by (try simp only [cB]); (with_reducible repeat (first | apply Kd.R_alloc | apply Kd.R_drewN | apply Kd.R_drew)); exact Kd.R_mono dO.out (fun _ hk => trivial)⟩, ⟨by (try simp only [cB]); (with_reducible repeat (first | apply Kd.R_alloc | apply Kd.R_drewN | apply Kd.R_drew)); exact Kd.R_mono bF.out (fun _ hk => trivial)⟩, ⟨by (try simp only [cB]); (with_reducible repeat (first | refine blk_drewN ?_ _ | refine blk_drew ?_ | refine blk_alloc ?_ _)); exact aA.out⟩, ⟨by (try simp only [cB]); (with_reducible repeat (first | refine blk_drewN ?_ _ | refine blk_drew ?_ | refine blk_alloc ?_ _)); exact b5.out⟩, ⟨zz19⟩⟩
      replace c69 := Bool.eq_false_iff.mpr c69; subst c69; rw [if_neg (show ¬ (false = true) by decide)] at H; have H' := zK_ H; clear H; obtain ⟨Ao72, co72, z8⟩ := Kd.R_slice lH.out; subst z8; obtain ⟨Ao73, co73, z7⟩ := Kd.R_slice eT.out; subst z7; (go_wp2_with (first | ((with_reducible refine gate_callee (f := 30) rfl ?_); refine goesL_ (some 86) rfl rfl Try.func30 (by kernel_rfl) rfl #[.slice Ao72 pI.length co72, .slice Ao73 iR.length co73] rfl zz3 ?_; (with_reducible refine (laws_eqIntS.calls kj37 _ _ pI _ _ iR false _ ?side1 ?side2 ?side3 ?side4 A68.out).mono ?_); (case side1 => repeat (first | exact (Kd.R_reads' lH.out).2.2 | (with_reducible refine Kd.C_alloc ?_ _) | (with_reducible refine Kd.C_drewN ?_ _) | (with_reducible refine Kd.C_drew ?_))); (case side2 => exact (Kd.R_reads' lH.out).2.1); (case side3 => exact zz48); (case side4 => exact (Kd.R_reads' eT.out).2.1); rintro e w' ⟨rfl, ⟨nd, rfl⟩⟩; refine ⟨_, rfl, ?_⟩))); (go_meet); case rel => exact ⟨_, (true), zz5, H', ⟨by have := HJ11.out; have := HJ37.out; first | omega | exact Nat.le_refl _⟩, ⟨by (try simp only [cB]); (with_reducible repeat (first | apply Kd.R_alloc | apply Kd.R_drewN | apply Kd.R_drew)); exact Kd.R_mono dO.out (fun _ hk => trivial)⟩, ⟨by (try simp only [cB]); (with_reducible repeat (first | apply Kd.R_alloc | apply Kd.R_drewN | apply Kd.R_drew)); exact Kd.R_mono bF.out (fun _ hk => trivial)⟩, ⟨by (try simp only [cB]); (with_reducible repeat (first | refine blk_drewN ?_ _ | refine blk_drew ?_ | refine blk_alloc ?_ _)); exact aA.out⟩, ⟨by (try simp only [cB]); (with_reducible repeat (first | refine blk_drewN ?_ _ | refine blk_drew ?_ | refine blk_alloc ?_ _)); exact b5.out⟩, ⟨zz19⟩⟩
     case rest =>
      clear HC60; (try clear c1); (try clear c2); (try clear p2); (try clear c3); (try clear c4); (try clear dI); (try clear c5); (try clear c6); (try clear c7); (try clear c16); (try clear c18); (try clear c20); (try clear c21); (try clear c23); (try clear c28); (try clear c29); (try clear c30); (try clear c31); (try clear c32); (try clear c33); (try clear c36); (try clear c43); (try clear c46); (try clear kX); (try clear c48); (try clear c53); (try clear c56); (try clear uT); (try clear c57); (try clear uS); (try clear uR); (try clear c63); (try clear c69); (try clear d3); (try clear d2); (try clear gY); (try clear gX); (try clear gW); (try clear gV); (try clear gF); (try clear gE); (try clear oJ); (try clear oI); (try clear rO); (try clear rN); (try clear eR); (try clear eQ); (try clear dZ); (try clear dY); (try clear gU); (try clear gT); (try clear gS); (try clear gR); (try clear gD); (try clear gC); (try clear nZ); (try clear nY); (try clear rG); (try clear rF); (try clear eK); (try clear eJ); (try clear p2); obtain ⟨kq, lK, rfl, HA, HJ59, dO, bF, aA, b5, HB⟩ := hcut; have kW := (Kd.R_reads' dO.out).1; rw [kW] at dO; (try simp only [kW]); (try simp only [kW] at aA); (try simp only [kW] at b5); (try simp only [kW] at bF)
      cases kq with
      | zero => exact absurd HA.out (by simp [laws_FnExactLevelCounts.j2])
      | succ kj59 =>
       have H := HA.out; clear HA; simp only [laws_FnExactLevelCounts.j2] at H; by_cases c74 : lK = true
       ·subst c74; rw [if_pos rfl] at H; exact absurd H (by simp)
       replace c74 := Bool.eq_false_iff.mpr c74; subst c74; rw [if_neg (show ¬ (false = true) by decide)] at H; obtain ⟨mH, A750, H⟩ := zO_ H; (try dsimp only at H); have A75 := zK_ A750; clear A750; by_cases c76 : mH < 0
       ·rw [if_pos c76] at H; exact absurd H (by simp)
       rw [if_neg c76] at H; have DG := decide_eq_false c76; clear c76; by_cases c77 : mH = mJ; rotate_left
       ·rw [if_neg c77] at H; exact absurd H (by simp)
       rw [if_pos c77] at H; have DF : (mH == mJ) = true := beq_iff_eq.mpr c77; have DE : (mH != mJ) = false := bne_eq_false_iff_eq.mpr c77; clear c77; obtain rfl := Option.some.inj H; (go_wp2_with (first | ((with_reducible refine gate_callee (f := 32) rfl ?_); refine goesL_ (some 95) rfl rfl Try.func32 (by kernel_rfl) rfl #[.slice Ao61 lQ.length co61, .int .i64 1] rfl zz3 ?_; (with_reducible refine (laws_heldIntS.calls kj59 _ _ lQ 1 mH _ ?side1 ?side2 A75.out).mono ?_); (case side1 => exact zz47); (case side2 => exact (Kd.R_reads' dO.out).2.1); rintro e w' ⟨rfl, ⟨nd, rfl⟩⟩; refine ⟨_, rfl, ?_⟩))); go_ret; exact ⟨zz7, zz19⟩
end Go.Proofs.Ytnbljcgdgblgoaa.P
end

section
namespace Go.Proofs.Ytnbljcgdgblgoaa.Cf
set_option linter.unusedVariables false
set_option linter.unusedSimpArgs false
open Go.RowKit Go.Proofs.YtnbljcgdgblgoaaW.PrintWords Go.Proofs.Ytnbljcgdgblgoaa.P
theorem forall_drop' {α : Type} {l : List α} {P : α → Prop} {i : Nat} (h : i < l.length) : (∀ e ∈ l.drop i, P e) ↔ (P l[i] ∧ ∀ e ∈ l.drop (i + 1), P e) := by
 rw [List.drop_eq_getElem_cons h]
 simp only [List.mem_cons, forall_eq_or_imp]
theorem implGraph (n : Int) (es : List E) : impl_GraphOk.f n es = some (gOk n es) := rfl
theorem gOk_true {n : Int} {es : List E} (h : gOk n es = true) : GOk n es := gOk_iff.1 h
theorem allWithin_l0 (a b : Int) (l : List Int) (hl : l.length ≤ 1048576) : ∀ (d i : Nat), i + d = l.length → Ep (fun k => impl_allWithin.l0 k a b l (l.length : Int) (i : Int)) (· = decide (∀ x ∈ l.drop i, a ≤ x ∧ x ≤ b)) := by
 intro d
 induction d with
 | zero =>
  intro i hi
  refine Ep.up ?_
  simp only [impl_allWithin.l0]
  refine Ep.neg (by omega) (Ep.now ?_)
  rw [List.drop_of_length_le (by omega)]
  simp
 | succ d ih =>
  intro i hi
  have hlt : i < l.length := by omega
  refine Ep.up ?_
  simp only [impl_allWithin.l0]
  refine Ep.pos (by omega) (Ep.pos (by omega) (Ep.pos (by omega) ?_))
  rw [rd_get hlt, wrap_succ (by omega)]
  refine Ep.bind0 (within_eq _ _ _) ?_
  refine Ep.ite (fun h => ?_) (fun h => Ep.now ?_)
  ·have h' : a ≤ l[i] ∧ l[i] ≤ b := by simpa using h
   refine (ih (i + 1) (by omega)).mono ?_
   rintro _ rfl
   simp only [forall_drop' hlt, h', true_and]
  ·have h' : ¬ (a ≤ l[i] ∧ l[i] ≤ b) := by simpa using h
   simp only [forall_drop' hlt, h', false_and, decide_false]
theorem allWithin_ok (l : List Int) (a b : Int) (hl : l.length ≤ 1048576) : Ep (fun k => impl_allWithin.f k l a b) (· = decide (∀ x ∈ l, a ≤ x ∧ x ≤ b)) := by
 have := allWithin_l0 a b l hl l.length 0 (by omega)
 simp only [impl_allWithin.f]
 rw [List.drop_zero] at this
 exact this
theorem isVertex_eq (n : Int) (es : List E) (v : Int) (hn : Wf .i64 n) : impl_isVertex.f n es v = some (gOk n es && decide (0 ≤ v ∧ v < n)) := by
 unfold impl_isVertex.f
 rw [implGraph]
 simp only [Option.bind_some]
 by_cases h : gOk n es = true
 ·have h1 := (gOk_true h).1.1
  have h6 := (gOk_true h).1.2.1
  rw [if_pos h, wrap_id (by omega) (by omega), within_eq, h]
  simp only [Option.bind_some, Bool.true_and]
  have : (0 ≤ v ∧ v ≤ n - 1) ↔ (0 ≤ v ∧ v < n) := by omega
  simp only [this]
 ·rw [if_neg h]
  have : gOk n es = false := by simpa using h
  rw [this]
  rfl
def At (es : List E) (k v : Int) : Prop := ∃ j : Nat, k = j ∧ ∃ h : j < es.length, es[j].f0 = v ∨ es[j].f1 = v
theorem At.of {es : List E} {j : Nat} {v : Int} (hj : j < es.length) : At es (j : Int) v ↔ (es[j].f0 = v ∨ es[j].f1 = v) := by
 constructor
 ·rintro ⟨i, hi, h, hx⟩
  have : i = j := by omega
  subst this
  exact hx
 ·intro h
  exact ⟨j, rfl, hj, h⟩
end Go.Proofs.Ytnbljcgdgblgoaa.Cf
end

section
namespace Go.Proofs.Ytnbljcgdgblgoaa.Cf
set_option linter.unusedVariables false
set_option linter.unusedSimpArgs false
def sumN : Nat → (Nat → Int) → Int
 | 0, _ => 0
 | n + 1, f => sumN n f + f n
def sumE (es : List E) (f : E → Int) : Int := (es.map f).sum
theorem sumE_cons (e : E) (r : List E) (f : E → Int) : sumE (e :: r) f = f e + sumE r f := by simp [sumE]
theorem sumN_congr {n : Nat} {f g : Nat → Int} (h : ∀ i, i < n → f i = g i) : sumN n f = sumN n g := by
 induction n with
 | zero => rfl
 | succ n ih => simp only [sumN]; rw [ih (fun i hi => h i (by omega)), h n (by omega)]
theorem sumN_le {n : Nat} {f g : Nat → Int} (h : ∀ i, i < n → f i ≤ g i) : sumN n f ≤ sumN n g := by
 induction n with
 | zero => exact Int.le_refl _
 | succ n ih =>
  simp only [sumN]
  have := ih (fun i hi => h i (by omega))
  have := h n (by omega)
  omega
theorem sumN_add (n : Nat) (f g : Nat → Int) : sumN n (fun i => f i + g i) = sumN n f + sumN n g := by
 induction n with
 | zero => rfl
 | succ n ih => simp only [sumN]; rw [ih]; omega
theorem sumN_zero (n : Nat) : sumN n (fun _ => 0) = 0 := by
 induction n with
 | zero => rfl
 | succ n ih => simp only [sumN]; rw [ih]; rfl
theorem sumN_const (n : Nat) (c : Int) : sumN n (fun _ => c) = n * c := by
 induction n with
 | zero => simp [sumN]
 | succ n ih => simp only [sumN]; rw [ih]; rw [Int.natCast_succ, Int.add_mul]; omega
theorem sumN_one {n : Nat} (k : Nat) (hk : k < n) (c : Int) : sumN n (fun i => if i = k then c else 0) = c := by
 induction n with
 | zero => omega
 | succ n ih =>
  simp only [sumN]
  by_cases h : n = k
  ·subst h
   rw [if_pos rfl, sumN_congr (g := fun _ => 0) (fun i hi => by rw [if_neg (by omega)]), sumN_zero]
   omega
  ·rw [ih (by omega), if_neg h]
   omega
theorem sumE_congr {es : List E} {f g : E → Int} (h : ∀ e ∈ es, f e = g e) : sumE es f = sumE es g := by
 unfold sumE
 rw [List.map_congr_left h]
theorem sumE_add (es : List E) (f g : E → Int) : sumE es (fun e => f e + g e) = sumE es f + sumE es g := by
 induction es with
 | nil => rfl
 | cons e r ih => rw [sumE_cons, sumE_cons, sumE_cons, ih]; omega
theorem sumE_le {es : List E} {f g : E → Int} (h : ∀ e ∈ es, f e ≤ g e) : sumE es f ≤ sumE es g := by
 induction es with
 | nil => exact Int.le_refl _
 | cons e r ih =>
  rw [sumE_cons, sumE_cons]
  have := ih (fun x hx => h x (List.mem_cons_of_mem _ hx))
  have := h e List.mem_cons_self
  omega
theorem sumE_zero {es : List E} {f : E → Int} (h : ∀ e ∈ es, f e = 0) : sumE es f = 0 := by
 induction es with
 | nil => rfl
 | cons e r ih => rw [sumE_cons, ih (fun x hx => h x (List.mem_cons_of_mem _ hx)), h e List.mem_cons_self]; rfl
theorem sumE_nonneg {es : List E} {f : E → Int} (h : ∀ e ∈ es, 0 ≤ f e) : 0 ≤ sumE es f := by
 have := sumE_le (es := es) (f := fun _ => 0) (g := f) h
 rw [sumE_zero (fun _ _ => rfl)] at this
 exact this
theorem sumE_term {es : List E} {f : E → Int} (h : ∀ e ∈ es, 0 ≤ f e) {e : E} (he : e ∈ es) : f e ≤ sumE es f := by
 induction es with
 | nil => cases he
 | cons a r ih =>
  rw [sumE_cons]
  have h0 := sumE_nonneg (fun x hx => h x (List.mem_cons_of_mem a hx))
  rcases List.mem_cons.1 he with rfl | he
  ·omega
  ·have := ih (fun x hx => h x (List.mem_cons_of_mem _ hx)) he
   have := h a List.mem_cons_self
   omega
theorem sumE_neg (es : List E) (f : E → Int) : sumE es (fun e => - f e) = - sumE es f := by
 induction es with
 | nil => rfl
 | cons e r ih => rw [sumE_cons, sumE_cons, ih]; omega
theorem sumE_mul (es : List E) (c : Int) (f : E → Int) : sumE es (fun e => c * f e) = c * sumE es f := by
 induction es with
 | nil => simp [sumE]
 | cons e r ih => rw [sumE_cons, sumE_cons, ih, Int.mul_add]
def lapE (s : Int → Int) (w : Int) (e : E) : Int := (if e.f0 = w then s e.f0 - s e.f1 else 0) + (if e.f1 = w then s e.f1 - s e.f0 else 0)
def lap (es : List E) (s : Int → Int) (w : Int) : Int := sumE es (lapE s w)
def ind (P : Int → Bool) (v : Int) : Int := if P v then 1 else 0
def one (v : Int) (t : Int) (w : Int) : Int := if w = v then t else 0
theorem lap_nil (s : Int → Int) (w : Int) : lap [] s w = 0 := rfl
theorem lap_cons (e : E) (r : List E) (s : Int → Int) (w : Int) : lap (e :: r) s w = lapE s w e + lap r s w := sumE_cons _ _ _
theorem lap_add (es : List E) (s t : Int → Int) (w : Int) : lap es (fun v => s v + t v) w = lap es s w + lap es t w := by
 unfold lap
 rw [← sumE_add]
 apply sumE_congr
 intro e _
 simp only [lapE]
 split <;> split <;> omega
theorem lap_neg (es : List E) (s : Int → Int) (w : Int) : lap es (fun v => - s v) w = - lap es s w := by
 unfold lap
 rw [← sumE_neg]
 apply sumE_congr
 intro e _
 simp only [lapE]
 split <;> split <;> omega
theorem lap_sub (es : List E) (s t : Int → Int) (w : Int) : lap es (fun v => s v - t v) w = lap es s w - lap es t w := by
 have := lap_add es s (fun v => - t v) w
 rw [lap_neg] at this
 rw [show (fun v => s v - t v) = (fun v => s v + - t v) from funext fun v => by omega, this]
 omega
theorem lap_congr {n : Int} {es : List E} (hes : ∀ e ∈ es, EOk n e) {s t : Int → Int} (h : ∀ v, 0 ≤ v → v < n → s v = t v) (w : Int) : lap es s w = lap es t w := by
 apply sumE_congr
 intro e he
 have hk := hes e he
 unfold EOk at hk
 unfold lapE
 rw [h e.f0 (by omega) (by omega), h e.f1 (by omega) (by omega)]
theorem lap_const {es : List E} {s : Int → Int} {c : Int} (h : ∀ e ∈ es, s e.f0 = c ∧ s e.f1 = c) (w : Int) : lap es s w = 0 := by
 apply sumE_zero
 intro e he
 unfold lapE
 rw [(h e he).1, (h e he).2]
 split <;> split <;> omega
def Red (n : Nat) (es : List E) (q : Int) (d : Int → Int) : Prop :=
 (∀ v : Int, 0 ≤ v → v < n → v ≠ q → 0 ≤ d v) ∧ ∀ S : Int → Bool, S q = false → (∃ v : Int, 0 ≤ v ∧ v < n ∧ S v = true) → ∃ v : Int, 0 ≤ v ∧ v < n ∧ S v = true ∧ d v < lap es (ind S) v
theorem exists_cut {es : List E} {S : Int → Prop} {a b : Int} (hab : Conn es a b) (ha : ¬ S a) (hb : S b) : ∃ u w, Adj es u w ∧ S u ∧ ¬ S w := by
 induction hab with
 | refl => exact absurd hb ha
 | @tail x y _ hadj ih =>
  by_cases hx : S x
  ·exact ih hx
  ·exact ⟨y, x, hadj.symm, hb, hx⟩
def below (n : Nat) (s : Int → Int) (t : Int) : Nat := (List.range n).countP (fun i => decide (s (i : Nat) < t))
def valE (v : Int) (e : E) : Int := if e.f0 = v ∨ e.f1 = v then 1 else 0
def val (es : List E) (v : Int) : Int := sumE es (valE v)
def multE (a b : Int) (e : E) : Int := if (e.f0 = a ∧ e.f1 = b) ∨ (e.f0 = b ∧ e.f1 = a) then 1 else 0
def mult (es : List E) (a b : Int) : Int := sumE es (multE a b)
theorem val_nonneg (es : List E) (v : Int) : 0 ≤ val es v := sumE_nonneg fun e _ => by unfold valE; split <;> omega
theorem mult_nonneg (es : List E) (a b : Int) : 0 ≤ mult es a b := sumE_nonneg fun e _ => by unfold multE; split <;> omega
theorem sumE_len {es : List E} {f : E → Int} (h : ∀ e ∈ es, f e ≤ 1) : sumE es f ≤ es.length := by
 induction es with
 | nil => simp [sumE]
 | cons e r ih =>
  rw [sumE_cons]
  have := ih (fun x hx => h x (List.mem_cons_of_mem _ hx))
  have := h e List.mem_cons_self
  simp only [List.length_cons]
  omega
theorem val_le (es : List E) (v : Int) : val es v ≤ es.length := sumE_len fun e _ => by unfold valE; split <;> omega
theorem mult_le (es : List E) (a b : Int) : mult es a b ≤ es.length := sumE_len fun e _ => by unfold multE; split <;> omega
theorem lap_one_self {n : Int} {es : List E} (hes : ∀ e ∈ es, EOk n e) (v t : Int) : lap es (one v t) v = t * val es v := by
 unfold lap val
 rw [← sumE_mul]
 apply sumE_congr
 intro e he
 have hk := hes e he
 unfold EOk at hk
 unfold lapE valE one
 by_cases a : e.f0 = v
 ·have b : ¬ e.f1 = v := by omega
  simp [a, b]
 ·by_cases b : e.f1 = v
  ·simp [a, b]
  ·simp [a, b]
theorem val_pos {n : Nat} {es : List E} (hj : Joined n es) {q v : Int} (hq : 0 ≤ q ∧ q < n) (hv : 0 ≤ v ∧ v < n) (hne : v ≠ q) : 0 < val es v := by
 have hc : Conn es q v := ((hj q hq.1 hq.2).symm).trans (hj v hv.1 hv.2)
 obtain ⟨u, w, ⟨e, he, hx⟩, hu, hw⟩ := exists_cut (S := fun x => x = v) hc (fun h => hne h.symm) rfl
 subst hu
 have h1 := sumE_term (f := valE u) (fun e _ => by unfold valE; split <;> omega) he
 have h2 : valE u e = 1 := by
  unfold valE
  rw [if_pos]
  rcases hx with ⟨a, _⟩ | ⟨_, b⟩
  ·exact .inl a
  ·exact .inr b
 unfold val
 omega
inductive Legal (n : Nat) (es : List E) (q : Int) (p : Int → Int) : (Int → Int) → Prop
 | zero : Legal n es q p (fun _ => 0)
 | step {s : Int → Int} {v : Int} : Legal n es q p s → 0 ≤ v → v < n → v ≠ q → val es v ≤ p v - lap es s v → Legal n es q p (fun w => s w + one v 1 w)
theorem Legal.nonneg {n : Nat} {es : List E} {q : Int} {p s : Int → Int} (h : Legal n es q p s) : (∀ w, 0 ≤ s w) ∧ s q = 0 := by
 induction h with
 | zero => exact ⟨fun _ => Int.le_refl _, rfl⟩
 | @step s v _ _ _ hq _ ih =>
  refine ⟨fun w => ?_, ?_⟩
  ·have := ih.1 w
   show 0 ≤ s w + one v 1 w
   unfold one
   split <;> omega
  ·have := ih.2
   show s q + one v 1 q = 0
   unfold one
   rw [if_neg (fun x : q = v => hq x.symm)]
   omega
end Go.Proofs.Ytnbljcgdgblgoaa.Cf
end

section
namespace Go.Proofs.Ytnbljcgdgblgoaa.P
open Go.RowKit Go.Proofs.YtnbljcgdgblgoaaW.PrintWords Go.Proofs.YtnbljcgdgblgoaaW.PrintLast Go.Proofs.YtnbljcgdgblgoaaW.PrintMore
attribute [local go_sem] max2_int min2_int max_two min_two max_three min_three max_four min_four
set_option linter.unusedVariables false
set_option linter.unusedSimpArgs false
def impl_DivisorOk.f (k : Nat) (aD : Int) (aC : List (S57)) (l1 : List Int) : Option (Bool) := (impl_GraphOk.f aD aC).bind fun aQ => (if aQ = true then (if (l1.length : Int) = aD then ((impl_allWithin.f k l1 (-60) 60).bind fun bQ => (some bQ)) else (some false)) else (some false))
theorem impl_DivisorOk.mono : ∀ a0 a1 a2 k, LeO (impl_DivisorOk.f k a0 a1 a2) (impl_DivisorOk.f (k + 1) a0 a1 a2) := by
 intro a0 a1 a2 k; unfold impl_DivisorOk.f; repeat' first | (with_reducible apply impl_allWithin.mono) | (with_reducible exact LeO.refl _) | (with_reducible exact LeO.none _) | (with_reducible refine LeO.ite ?_ ?_) | (with_reducible refine LeO.bind ?_ (fun _ => ?_)) | apply impl_allWithin.mono | exact LeO.none _ | refine LeO.ite ?_ ?_ | refine LeO.bind ?_ (fun _ => ?_)
end Go.Proofs.Ytnbljcgdgblgoaa.P
end

section
namespace Go.Proofs.Ytnbljcgdgblgoaa.Cf
set_option linter.unusedVariables false
set_option linter.unusedSimpArgs false
open Go.RowKit Go.Proofs.YtnbljcgdgblgoaaW.PrintWords Go.Proofs.Ytnbljcgdgblgoaa.P
def valG (n : Int) (es : List E) (v : Int) : Int := if 0 ≤ v ∧ v < n then val es v else 0
theorem val_drop {es : List E} {i : Nat} (h : i < es.length) (v : Int) : val (es.drop i) v = valE v es[i] + val (es.drop (i + 1)) v := by
 rw [List.drop_eq_getElem_cons h]
 exact sumE_cons _ _ _
theorem specVal_loop (v : Int) (es : List E) (hl : es.length ≤ 1048576) : ∀ (d i : Nat) (a : Int), i + d = es.length → 0 ≤ a → a ≤ i → Ep (fun k => spec_Valence.l0 k v a es (es.length : Int) (i : Int)) (· = a + val (es.drop i) v) := by
 intro d
 induction d with
 | zero =>
  intro i a hi h0 ha
  refine Ep.up ?_
  simp only [spec_Valence.l0]
  refine Ep.neg (by omega) (Ep.now ?_)
  rw [List.drop_of_length_le (by omega)]
  simp [val, sumE]
 | succ d ih =>
  intro i a hi h0 ha
  have hlt : i < es.length := by omega
  refine Ep.up ?_
  simp only [spec_Valence.l0]
  refine Ep.pos (by omega) (Ep.pos (by omega) (Ep.pos (by omega) ?_))
  rw [rdE_get hlt, wrap_succ (by omega), wrap_id (x := a + 1) (by omega) (by omega), val_drop hlt]
  refine Ep.ite (fun h => ?_) (fun h => Ep.ite (fun h2 => ?_) (fun h2 => ?_))
  ·refine (ih (i + 1) (a + 1) (by omega) (by omega) (by omega)).mono ?_
   rintro _ rfl
   unfold valE
   rw [if_pos (.inl h)]
   omega
  ·refine (ih (i + 1) (a + 1) (by omega) (by omega) (by omega)).mono ?_
   rintro _ rfl
   unfold valE
   rw [if_pos (.inr h2)]
   omega
  ·refine (ih (i + 1) a (by omega) h0 (by omega)).mono ?_
   rintro _ rfl
   unfold valE
   rw [if_neg (by rintro (x | x); exact h x; exact h2 x)]
   omega
theorem specValence (n : Int) (es : List E) (v : Int) (hl : es.length ≤ 1048576) : Ep (fun k => spec_Valence.f k n es v) (· = valG n es v) := by
 have hv : spec_l02Vert.f n es v = some (decide (0 ≤ v ∧ v < n)) := by
  unfold spec_l02Vert.f
  by_cases h : v ≥ 0
  ·rw [if_pos h]
   have : (0 ≤ v ∧ v < n) ↔ v < n := ⟨fun x => x.2, fun x => ⟨h, x⟩⟩
   simp only [this]
  ·rw [if_neg h]
   have : ¬ (0 ≤ v ∧ v < n) := fun x => h x.1
   simp only [this, decide_false]
 simp only [spec_Valence.f, valG]
 refine Ep.bind0 hv (Ep.ite (fun h => ?_) (fun h => Ep.now ?_))
 ·refine (specVal_loop v es hl es.length 0 0 (by omega) (by omega) (by omega)).mono ?_
  rintro _ rfl
  rw [if_pos (by simpa using h), List.drop_zero]
  omega
 ·rw [if_neg (by simpa using h)]
theorem implVal_loop (v : Int) (es : List E) (hl : es.length ≤ 1048576) : ∀ (d i : Nat) (a : Int), i + d = es.length → 0 ≤ a → a ≤ i → Ep (fun k => impl_Valence.l0 k v a es (es.length : Int) (i : Int)) (· = a + val (es.drop i) v) := by
 intro d
 induction d with
 | zero =>
  intro i a hi h0 ha
  refine Ep.up ?_
  simp only [impl_Valence.l0]
  refine Ep.neg (by omega) (Ep.now ?_)
  rw [List.drop_of_length_le (by omega)]
  simp [val, sumE]
 | succ d ih =>
  intro i a hi h0 ha
  have hlt : i < es.length := by omega
  refine Ep.up ?_
  simp only [impl_Valence.l0]
  refine Ep.pos (by omega) (Ep.pos (by omega) (Ep.pos (by omega) ?_))
  rw [rdE_get hlt, wrap_succ (by omega), wrap_id (x := a + 1) (by omega) (by omega), val_drop hlt]
  refine Ep.ite (fun h => ?_) (fun h => Ep.ite (fun h2 => ?_) (fun h2 => ?_))
  ·refine (ih (i + 1) (a + 1) (by omega) (by omega) (by omega)).mono ?_
   rintro _ rfl
   unfold valE
   rw [if_pos (.inl h)]
   omega
  ·refine (ih (i + 1) (a + 1) (by omega) (by omega) (by omega)).mono ?_
   rintro _ rfl
   unfold valE
   rw [if_pos (.inr h2)]
   omega
  ·refine (ih (i + 1) a (by omega) h0 (by omega)).mono ?_
   rintro _ rfl
   unfold valE
   rw [if_neg (by rintro (x | x); exact h x; exact h2 x)]
   omega
theorem implValence (n : Int) (es : List E) (v : Int) (hl : es.length ≤ 1048576) : Ep (fun k => impl_Valence.f k n es v) (· = valG n es v) := by
 simp only [impl_Valence.f, valG]
 refine Ep.ite (fun h => ?_) (fun h => ?_)
 ·refine Ep.up ?_
  simp only [impl_Valence.j0]
  refine Ep.pos trivial (Ep.now ?_)
  rw [if_neg (by omega)]
 ·refine Ep.up ?_
  simp only [impl_Valence.j0]
  refine Ep.ite (fun h2 => Ep.now ?_) (fun h2 => ?_)
  ·have : v ≥ n := by simpa using h2
   rw [if_neg (by omega)]
  ·have : ¬ v ≥ n := by simpa using h2
   refine (implVal_loop v es hl es.length 0 0 (by omega) (by omega) (by omega)).mono ?_
   rintro _ rfl
   rw [if_pos (by omega), List.drop_zero]
   omega
end Go.Proofs.Ytnbljcgdgblgoaa.Cf
end

section
namespace Go.Proofs.Ytnbljcgdgblgoaa.Cf
set_option linter.unusedVariables false
set_option linter.unusedSimpArgs false
def burnSum (es : List E) (b : List Int) (v : Int) : Int := (b.map (mult es v)).sum
inductive Burn (n : Nat) (es : List E) (d : Int → Int) (q : Int) : List Int → Prop
 | start : Burn n es d q [q]
 | step {b : List Int} {v : Int} : Burn n es d q b → 0 ≤ v → v < n → v ∉ b → d v < burnSum es b v → Burn n es d q (b ++ [v])
theorem Burn.ok {n : Nat} {es : List E} {d : Int → Int} {q : Int} {b : List Int} (hq : 0 ≤ q ∧ q < n) (h : Burn n es d q b) : b.Nodup ∧ (∀ v ∈ b, 0 ≤ v ∧ v < n) ∧ q ∈ b := by
 induction h with
 | start => exact ⟨by simp, fun v hv => by rw [List.mem_singleton.1 hv]; exact hq, by simp⟩
 | @step b v _ h0 h1 hv _ ih =>
  refine ⟨?_, fun x hx => ?_, List.mem_append_left _ ih.2.2⟩
  ·rw [List.nodup_append]
   exact ⟨ih.1, by simp, fun a ha c hc => by
    rw [List.mem_singleton.1 hc]
    rintro rfl
    exact hv ha⟩
  ·rcases List.mem_append.1 hx with hx | hx
   ·exact ih.2.1 x hx
   ·rw [List.mem_singleton.1 hx]
    exact ⟨h0, h1⟩
theorem Burn.len {n : Nat} {es : List E} {d : Int → Int} {q : Int} {b : List Int} (hq : 0 ≤ q ∧ q < n) (h : Burn n es d q b) : b.length ≤ n := nodup_len n b (h.ok hq).1 (h.ok hq).2.1
theorem sum_ind (x : Int) : ∀ (b : List Int), b.Nodup → (b.map (fun w => if x = w then (1 : Int) else 0)).sum = if x ∈ b then 1 else 0
 | [], _ => by simp
 | a :: r, h => by
  have ih := sum_ind x r (List.nodup_cons.1 h).2
  have hn := (List.nodup_cons.1 h).1
  simp only [List.map_cons, List.sum_cons, ih, List.mem_cons]
  by_cases e : x = a
  ·subst e
   simp [hn]
  ·simp [e]
theorem sum_zero (b : List Int) : (b.map (fun _ => (0 : Int))).sum = 0 := by
 induction b with
 | nil => rfl
 | cons a r ih => simp only [List.map_cons, List.sum_cons, ih]; rfl
theorem sum_add (b : List Int) (f g : Int → Int) : (b.map (fun w => f w + g w)).sum = (b.map f).sum + (b.map g).sum := by
 induction b with
 | nil => rfl
 | cons a r ih => simp only [List.map_cons, List.sum_cons, ih]; omega
theorem burnSum_lap {n : Int} {es : List E} (hes : ∀ e ∈ es, EOk n e) {b : List Int} (hb : b.Nodup) {v : Int} (hv : v ∉ b) : burnSum es b v = lap es (ind (fun x => decide (x ∉ b))) v := by
 induction es with
 | nil =>
  unfold burnSum
  rw [lap_nil]
  exact sum_zero b
 | cons e r ih =>
  have ih := ih (fun x hx => hes x (List.mem_cons_of_mem _ hx))
  have hk := hes e List.mem_cons_self
  unfold EOk at hk
  have h1 : burnSum (e :: r) b v = (b.map (fun w => multE v w e)).sum + burnSum r b v := by
   unfold burnSum
   rw [← sum_add]
   congr 1
  rw [h1, ih, lap_cons]
  congr 1
  unfold lapE ind multE
  by_cases a : e.f0 = v
  ·have c : ¬ e.f1 = v := by omega
   have key : (b.map (fun w => if (e.f0 = v ∧ e.f1 = w) ∨ (e.f0 = w ∧ e.f1 = v) then (1 : Int) else 0)).sum = if e.f1 ∈ b then 1 else 0 := by
    rw [← sum_ind e.f1 b hb]
    congr 1
    apply List.map_congr_left
    intro w _
    simp [a, c]
   rw [key, if_pos a, if_neg c, a]
   by_cases m : e.f1 ∈ b <;> simp [m, hv]
  ·by_cases c : e.f1 = v
   ·have key : (b.map (fun w => if (e.f0 = v ∧ e.f1 = w) ∨ (e.f0 = w ∧ e.f1 = v) then (1 : Int) else 0)).sum = if e.f0 ∈ b then 1 else 0 := by
     rw [← sum_ind e.f0 b hb]
     congr 1
     apply List.map_congr_left
     intro w _
     simp [a, c]
    rw [key, if_neg a, if_pos c, c]
    by_cases m : e.f0 ∈ b <;> simp [m, hv]
   ·have key : (b.map (fun w => if (e.f0 = v ∧ e.f1 = w) ∨ (e.f0 = w ∧ e.f1 = v) then (1 : Int) else 0)).sum = 0 := by
     exact (congrArg List.sum (List.map_congr_left (g := fun _ => (0 : Int)) (fun w _ => by simp [a, c]))).trans (sum_zero b)
    rw [key, if_neg a, if_neg c]
    rfl
theorem lap_ind_mono {es : List E} {S T : Int → Bool} {v : Int} (hv : S v = true) (hw : T v = true) (h : ∀ x, S x = true → T x = true) : lap es (ind T) v ≤ lap es (ind S) v := by
 apply sumE_le
 intro e _
 have h0 := h e.f0
 have h1 := h e.f1
 unfold lapE ind
 by_cases a : e.f0 = v
 ·by_cases b : e.f1 = v
  ·simp [a, b]
  ·rw [if_pos a, if_pos a, if_neg b, if_neg b, a, hv, hw]
   cases hs : S e.f1 <;> cases ht : T e.f1 <;> simp_all
 ·by_cases b : e.f1 = v
  ·rw [if_neg a, if_neg a, if_pos b, if_pos b, b, hv, hw]
   cases hs : S e.f0 <;> cases ht : T e.f0 <;> simp_all
  ·rw [if_neg a, if_neg a, if_neg b, if_neg b]
   exact Int.le_refl _
theorem Burn.meets {n : Nat} {es : List E} (hes : ∀ e ∈ es, EOk n e) {d : Int → Int} {q : Int} (hq : 0 ≤ q ∧ q < n) {b : List Int} (h : Burn n es d q b) {S : Int → Bool} (hS : S q = false) : (∀ v ∈ b, S v = false) ∨ ∃ v : Int, 0 ≤ v ∧ v < n ∧ S v = true ∧ d v < lap es (ind S) v := by
 induction h with
 | start => exact .inl (fun v hv => by rw [List.mem_singleton.1 hv]; exact hS)
 | @step b v hb h0 h1 hv hlt ih =>
  rcases ih with ih | ih
  ·by_cases hx : S v = true
   ·right
    refine ⟨v, h0, h1, hx, ?_⟩
    rw [burnSum_lap hes (hb.ok hq).1 hv] at hlt
    have := lap_ind_mono (es := es) (S := S) (T := fun x => decide (x ∉ b)) hx (by simpa using hv) (fun x hx => by
     simp only [decide_eq_true_eq]
     intro hm
     rw [ih x hm] at hx
     cases hx)
    omega
   ·left
    intro x hm
    rcases List.mem_append.1 hm with hm | hm
    ·exact ih x hm
    ·rw [List.mem_singleton.1 hm]
     simpa using hx
  ·exact .inr ih
theorem Burn.red {n : Nat} {es : List E} (hes : ∀ e ∈ es, EOk n e) {d : Int → Int} {q : Int} (hq : 0 ≤ q ∧ q < n) {b : List Int} (h : Burn n es d q b) (hl : b.length = n) (hd : ∀ v : Int, 0 ≤ v → v < n → v ≠ q → 0 ≤ d v) : Red n es q d := by
 refine ⟨hd, fun S hS hx => ?_⟩
 rcases h.meets hes hq hS with hb | hb
 ·exfalso
  obtain ⟨v, h0, h1, hv⟩ := hx
  have : v ∈ b := by
   apply Classical.byContradiction
   intro hn
   have := nodup_len n (v :: b) (List.nodup_cons.2 ⟨hn, (h.ok hq).1⟩) (fun x hx => by
    rcases List.mem_cons.1 hx with rfl | hx
    ·exact ⟨h0, h1⟩
    ·exact (h.ok hq).2.1 x hx)
   simp at this
   omega
  rw [hb v this] at hv
  cases hv
 ·exact hb
theorem Red.burns {n : Nat} {es : List E} (hes : ∀ e ∈ es, EOk n e) {d : Int → Int} {q : Int} (hq : 0 ≤ q ∧ q < n) {b : List Int} (h : Burn n es d q b) (hr : Red n es q d) (hl : b.length < n) : ∃ v : Int, 0 ≤ v ∧ v < n ∧ v ∉ b ∧ d v < burnSum es b v := by
 have hok := h.ok hq
 have hex : ∃ v : Int, 0 ≤ v ∧ v < n ∧ v ∉ b := by
  apply Classical.byContradiction
  intro hc
  have := len_nodup n b (fun i hi => by
   apply Classical.byContradiction
   intro hm
   exact hc ⟨i, by omega, by omega, hm⟩)
  omega
 obtain ⟨v, h0, h1, hv, hlt⟩ := hr.2 (fun x => decide (x ∉ b)) (by simpa using hok.2.2) (by obtain ⟨v, h0, h1, hv⟩ := hex; exact ⟨v, h0, h1, by simpa using hv⟩)
 have hv' : v ∉ b := by simpa using hv
 exact ⟨v, h0, h1, hv', by rw [burnSum_lap hes hok.1 hv']; exact hlt⟩
end Go.Proofs.Ytnbljcgdgblgoaa.Cf
end

