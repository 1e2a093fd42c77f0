/- A part of the proof of FnExactClassesOf. -/
import Derived.Test.YtnbljcgdgblgoaaBFnExactClassesOf2
import Derived.Test.YtnbljcgdgblgoaaBFnExactClassesOf0
import Derived.Deep.LoopGhost
import Derived.Test.YtnbljcgdgblgoaaBFnExactClassesOf1
import Derived.Lib.SliceRun
import Derived.Shelf.SlSortCmp.NoneTotal
set_option maxHeartbeats 16000000
set_option maxRecDepth 1000000
section
namespace Go.Proofs.Ytnbljcgdgblgoaa.P
open Go.RowKit Go.Proofs.YtnbljcgdgblgoaaW.PrintWords Go.Proofs.YtnbljcgdgblgoaaW.PrintLast Go.Proofs.YtnbljcgdgblgoaaW.PrintMore
attribute [local go_sem] max2_int min2_int max_two min_two max_three min_three max_four min_four
set_option linter.unusedVariables false
set_option linter.unusedSimpArgs false
def impl_ReducedLaplacian.f (k : Nat) (aD : Int) (aC : List S57) (a1 : Int) : Option (List (List Int)) := (impl_isVertex.f aD aC a1).bind fun t => if t = true then (impl_LaplacianOf.f k aD aC).bind fun L => Cf.redF a1 L else some []
theorem impl_ReducedLaplacian.mono : ∀ a0 a1 a2 k, LeO (impl_ReducedLaplacian.f k a0 a1 a2) (impl_ReducedLaplacian.f (k + 1) a0 a1 a2) := by
 intro a0 a1 a2 k; unfold impl_ReducedLaplacian.f; exact LeO.bind (LeO.refl _) fun t => LeO.ite (LeO.bind (impl_LaplacianOf.mono _ _ k) fun _ => LeO.refl _) (LeO.refl _)
theorem impl_ReducedLaplacian.calls (k : Nat) (aD : Int) (aH : Option Addr) (aG : Nat) (aC : List S57) (a1 : Int) (r : List (List Int)) (w : World) (hr0_1 : Kd.C k57 w aH aC.length aC) (hc0_1 : aC.length ≤ aG) (h : impl_ReducedLaplacian.f k aD aC a1 = some r) :
  Calls Try.prog 121 #[.agg #[.int .i64 aD, .slice aH aC.length aG], .int .i64 a1] w fun e w' => ∃ v0_ : Value, e = .returned (v0_) ∧ Kd.S (Kd.slice 3 (Kd.int .i64)) 26 w' w.heap.size (fun _ => True) v0_ r ∧ Below w.heap.size w w' := by
 have hu30 := Try.underlying25; have HR := zK_ hr0_1; have HC := zK_ hc0_1; clear hr0_1 hc0_1; have H : ((impl_isVertex.f aD aC a1).bind fun t => if t = true then (impl_LaplacianOf.f k aD aC).bind fun L => Cf.redF a1 L else some []) = some r := h; clear h; obtain ⟨t, hv, H⟩ := zO_ H; have HV := zK_ hv; clear hv; have HB := zK_ (below_alloc (Below.refl w.heap.size w) (.cells #[.int .i64 aD, .slice aH aC.length aG] 25)); have BK := zK_ (heap_alloc_new w (.cells #[.int .i64 aD, .slice aH aC.length aG] 25))
 cases t with
 | false =>
  obtain rfl := Option.some.inj H; clear H; go_enter Try.func121, Try.ntmps121; (go_wp2_with fail); refine (impl_isVertex.calls _ _ _ aC _ false _ (Kd.C_below HR.out HB.out) HC.out HV.out).mono ?_; rintro e w1 ⟨rfl, hb⟩; have HB1 := zK_ (below_step HB.out hb); clear hb; go_wp2; go_ret; exact ⟨_, rfl, Kd.S_nil _ _ _ _ _, HB1.out⟩
 | true =>
  rw [if_pos rfl] at H; obtain ⟨L, hL, H⟩ := zO_ H; have HL := zK_ hL; clear hL; unfold Cf.redF at H; split at H
  ·rename_i hq; obtain rfl := Option.some.inj H; clear H; obtain ⟨hq0, hq1, hq2, hq3⟩ := hq; obtain ⟨q, rfl⟩ := Int.eq_ofNat_of_zero_le hq0; rw [Int.toNat_natCast]; have HQ := zK_ (show q ≤ 1000000 ∧ L.length ≤ 1000000 ∧ ∀ r ∈ L, q < r.length from ⟨by omega, hq2, fun r hr => by have := hq3 r hr; omega⟩); clear hq0 hq1 hq2 hq3; go_enter Try.func121, Try.ntmps121; (go_wp2_with fail); refine (impl_isVertex.calls _ _ _ aC _ true _ (Kd.C_below HR.out HB.out) HC.out HV.out).mono ?_; rintro e w1 ⟨rfl, hb⟩; have HB1 := zK_ (below_step HB.out hb); have oC := zK_ (blk_below BK.out hb); clear hb; have hz0 : w1.cell? ⟨w.heap.size, 0, none⟩ = some (.int .i64 aD) := (blk_cell oC.out 0).trans rfl; have hz1 : w1.cell? ⟨w.heap.size, 1, none⟩ = some (.slice aH aC.length aG) := (blk_cell oC.out 1).trans rfl; (go_wp2_with fail); refine (impl_LaplacianOf.calls k _ _ _ aC L _ (Kd.C_below HR.out HB1.out) HC.out HL.out).mono ?_; rintro e w2 ⟨vL, rfl, hS, hb⟩; have HB2 := zK_ (below_step HB1.out hb); obtain ⟨okj, rs, hO, _, hok⟩ := Cf.rows_open (Kd.S_bound hS); obtain ⟨AL, cL, eL, hcL, _⟩ := Kd.S_reads hS; have HO := zK_ hO; have HSZ := zK_ (show ∀ j k, okj j k → k < w2.heap.size from fun j k h => (hok j k h).2.2.1); have HW1 := zK_ (below_size HB1.out); have HRow := zK_ (show ∀ j x u, L[j]? = some x → rs[j]? = some u → Kd.R (Kd.int .i64) 3 w2 w.heap.size (okj j) u x from fun j x u hx hu => Kd.R_lower (hO.row j x u hx hu) (below_size HB1.out)); have HOL := zK_ (show ∀ k, vL.ownBlock = some k → k < w2.heap.size from Kd.S_lt hS); subst eL; have hLl : L.length ≤ cL := hcL; clear hS hb hO hok hcL hz0 hz1; go_wp2; (go_loopw [5, 15] (fun v5 v15 wr => ∃ i : Nat, v15 = .int .i64 (i : Int) ∧ Aside0 (i ≤ L.length ∧ w2.heap.size ≤ wr.heap.size) ∧ Aside0 (Below w.heap.size w wr) ∧ Aside0 (∀ k, ((Value.slice AL L.length cL).ownBlock = some k ∨ ∃ j, i ≤ j ∧ okj j k) → wr.heap[k]? = w2.heap[k]?) ∧ Aside0 (Kd.S (Kd.slice 3 (Kd.int .i64)) 26 wr w.heap.size (fun k => (∃ j, j < i ∧ okj j k) ∨ w2.heap.size ≤ k) v5 (Cf.keepF q L i))) (fun _ v _ => L.length - (intOf v).toNat)); case atStart => exact ⟨0, rfl, ⟨Nat.zero_le _, Nat.le_refl _⟩, HB2, ⟨fun _ _ => rfl⟩, ⟨Kd.S_nil _ _ _ _ _⟩⟩
   case round =>
    obtain ⟨i, rfl, HI, HBr, HM, HS⟩ := hrel; by_cases hlt : i < L.length; rotate_left
    ·have c0 : decide ((i : Int) < (L.length : Int)) = false := decide_eq_false (by omega); (have hi : i = L.length := by have := HI.out; omega); subst hi; clear hlt; go_wp2; go_ret; exact ⟨_, rfl, Kd.S_mono HS.out (fun _ _ => trivial), HBr.out⟩
    have c0 : decide ((i : Int) < (L.length : Int)) = true := decide_eq_true (by omega); (have hil : i < rs.length := by rw [HO.out.len]; exact hlt); obtain ⟨x, hxi⟩ : ∃ x, L[i]? = some x := ⟨_, List.getElem?_eq_getElem hlt⟩; obtain ⟨u, hui⟩ : ∃ u, rs[i]? = some u := ⟨_, List.getElem?_eq_getElem hil⟩; have hR2 := HRow.out i _ _ hxi hui; have hown := HO.out.own; obtain ⟨gL, cap, hgL, hgb, hgc⟩ := hown.form (by omega); injection hgL with hA hn hc; subst hA; (have hcell2 : w2.cell? ⟨gL, i, none⟩ = some u := by have := hown.cells (g := gL) rfl i _ hui; rwa [add_plain] at this); have hsame : wr.heap[gL]? = w2.heap[gL]? := HM.out gL (.inl rfl); have hcell : wr.cell? ⟨gL, i, none⟩ = some u := (World.cell?_of_block (a := ⟨gL, i, none⟩) hsame).trans hcell2; (have hRr := Kd.R_move hR2 (w1 := wr) fun k hk => HM.out k (.inr ⟨i, Nat.le_refl _, hk⟩)); obtain ⟨Ai, ci, ei⟩ := Kd.R_slice hRr; rw [ei] at hcell hRr; have HRr := zK_ hRr; (have p1 : (0 : Int) ≤ (i : Int) := by omega); (have p2 : (i : Int) < (L.length : Int) := by omega); (have hib : (i : Int) ≤ 1000000 := by have := HQ.out.2.1; omega); (have hq0 : (0 : Int) ≤ (q : Int) := by omega); (have hqb : (q : Int) ≤ 1000000 := by have := HQ.out.1; omega); have HLT := zK_ hlt; have HXI := zK_ hxi; have HGL := zK_ (HOL.out gL rfl); clear hR2 hown hgb hgc hsame hcell2 hRr hxi hui hlt hil ei hn hc; by_cases hq : i = q
    ·(have c1 : ((i : Int) == (q : Int)) = true := by simp [hq]); (have c2 : ((i : Int) != (q : Int)) = false := by simp [hq]); have HQI := zK_ hq; clear hq; go_wp2; go_roundw
     case rel =>
      refine ⟨i + 1, by go_num, ⟨by have := HLT.out; omega, HI.out.2⟩, HBr, ⟨fun k hk => HM.out k (hk.imp_right fun ⟨j, hj, h⟩ => ⟨j, by omega, h⟩)⟩, ⟨?_⟩⟩; have e : Cf.keepF q L (i + 1) = Cf.keepF q L i := if_pos HQI.out; rw [e]; exact Kd.S_mono HS.out fun k hk => hk.imp_left fun ⟨j, hj, h⟩ => ⟨j, by omega, h⟩
     case measure =>
      have := HLT.out; (simp [intOf]); omega
    (have c1 : ((i : Int) == (q : Int)) = false := by simp; omega); (have c2 : ((i : Int) != (q : Int)) = true := by simp; omega); have HQI := zK_ hq; clear hq; (go_wp2_with fail); refine (slices_Delete_int_int.calls (okj i) _ x (q : Int) _ (x.eraseIdx q) w wr HBr.out HRr.out ?hd).mono ?_
    case hd =>
     have hql : q < x.length := HQ.out.2.2 x (List.mem_of_getElem? HXI.out); unfold slices_Delete_int_int.f; rw [if_pos (by omega), if_pos (by omega), if_pos rfl, Int.toNat_natCast]
    rintro e w3 ⟨vD, rfl, hD, hb3, hk3⟩; obtain ⟨Ad, cd, ed⟩ := Kd.R_slice hD; subst ed; have HD := zK_ hD; have HB3 := zK_ hb3; have HK3 := zK_ hk3; clear hD hb3 hk3; have HSr := zK_ (Kd.S_mono (ok' := fun k => (((∃ j, j < i + 1 ∧ okj j k) ∨ w2.heap.size ≤ k) ∧ ¬ (okj i k ∨ wr.heap.size ≤ k))) (Kd.S_step (Kd.S_bound HS.out) (w1 := w3) fun k hk hlt => HK3.out.2 k hlt fun hi => hk.1.elim (fun ⟨j, hj, h⟩ => by have := HO.out.apart j i k h hi; omega) (fun h => by have := HSZ.out i k hi; omega)) fun k hk => ⟨hk.1.imp_left fun ⟨j, hj, h⟩ => ⟨j, by omega, h⟩, fun h => h.elim (fun hi => hk.1.elim (fun ⟨j, hj, h⟩ => by have := HO.out.apart j i k h hi; omega) (fun h => by have := HSZ.out i k hi; omega)) (fun h => by have := hk.2.2.1; omega)⟩); have HKL := zK_ (Cf.keepF_len q L i); (go_wp2_with (first | ((with_reducible refine gate_builtin (b := .append) (xs := #[.tmp 23, .tmp 29]) rfl ?_); at_builtin; refine Kd.S_append (Kd.slice 3 (Kd.int .i64)) (w0 := w) w.heap.size rfl (.tmp 23) (.tmp 29) 34 26 (.slice none 0 0) 24 rfl Try.underlying34 info26 rfl (by decide) (by omega) u5 (Cf.keepF q L i) (x.eraseIdx q) [.slice Ad (x.eraseIdx q).length cd] (fun k => (∃ j, j < i + 1 ∧ okj j k) ∨ w2.heap.size ≤ k) (fun k => okj i k ∨ wr.heap.size ≤ k) rfl rfl ?aP ?aK ?aF ?aO ?aB ?aS ?aL ?_; (case aP => exact Kd.M_row HD.out); (case aK => exact fun k hk => ⟨hk.elim (fun h => .inl ⟨i, by omega, h⟩) (fun h => .inr (by have := HI.out.2; omega)), fun e => (HSr.out.choose_spec.1 k e.symm).2 hk⟩); (case aF => exact fun k hk => .inr (by have := HI.out.2; have := HK3.out.1; omega)); (case aO => exact HSr.out); (case aB => exact HB3.out); (case aS => exact below_size HB3.out); (case aL => have := HKL.out; have := HQ.out.2.1; have := HLT.out; omega); intro v1 w4 ho hb hg hat; have HS4 := zK_ ho; have HB4 := zK_ hb; have HG4 := zK_ hg; clear ho hb hg hat))); go_roundw
    case rel =>
     refine ⟨i + 1, by go_num, ⟨by have := HLT.out; omega, by have := HI.out.2; have := HK3.out.1; have := HG4.out.size; omega⟩, HB4, ⟨fun k hk => ?_⟩, ⟨?_⟩⟩
     ·have hk2 : k < w2.heap.size ∧ ¬ (∃ j, j < i + 1 ∧ okj j k) := by
       rcases hk with hk | ⟨j, hj, h⟩
       ·(have : k = gL := by simpa [Value.ownBlock] using hk.symm); subst this; exact ⟨HGL.out, fun ⟨j, _, h⟩ => HO.out.off j k h rfl⟩
       ·exact ⟨HSZ.out j k h, fun ⟨j', hj', h'⟩ => by have := HO.out.apart j j' k h h'; omega⟩
      have hkr : k < wr.heap.size := Nat.lt_of_lt_of_le hk2.1 HI.out.2; (have h1 := HG4.out.block k (Nat.lt_of_lt_of_le hkr HK3.out.1) fun e => (HSr.out.choose_spec.1 k e.symm).1.elim hk2.2 fun h => by have := hk2.1; omega); (have h2 := HK3.out.2 k hkr fun h => hk2.2 ⟨i, by omega, h⟩); exact h1.trans (h2.trans (HM.out k (hk.imp_right fun ⟨j, hj, h⟩ => ⟨j, by omega, h⟩)))
     ·have e : Cf.keepF q L (i + 1) = Cf.keepF q L i ++ [x.eraseIdx q] := by
       show (if i = q then _ else _) = _; rw [if_neg HQI.out, List.getD_eq_getElem?_getD, HXI.out]; rfl
      rw [e]; exact HS4.out
    case measure =>
     have := HLT.out; (simp [intOf]); omega
  ·cases H
def impl_CountTrees.f (k : Nat) (aD : Int) (aC : List (S57)) : Option (Int) := (impl_GraphOk.f aD aC).bind fun bA => (if bA = true then ((impl_ReducedLaplacian.f k aD aC 0).bind fun bL => ((impl_Determinant.f k bL).bind fun dP => (some dP))) else (some 0))
theorem impl_CountTrees.mono : ∀ a0 a1 k, LeO (impl_CountTrees.f k a0 a1) (impl_CountTrees.f (k + 1) a0 a1) := by
 intro a0 a1 k; unfold impl_CountTrees.f; repeat' first | (with_reducible apply impl_Determinant.mono) | (with_reducible apply impl_ReducedLaplacian.mono) | (with_reducible exact LeO.refl _) | (with_reducible exact LeO.none _) | (with_reducible refine LeO.ite ?_ ?_) | (with_reducible refine LeO.bind ?_ (fun _ => ?_)) | apply impl_Determinant.mono | apply impl_ReducedLaplacian.mono | exact LeO.none _ | refine LeO.ite ?_ ?_ | refine LeO.bind ?_ (fun _ => ?_)
theorem impl_CountTrees.calls (k : Nat) (aD : Int) (aH : Option Addr) (aG : Nat) (aC : List (S57)) (r : Int) (w : World) (hr0_1 : Kd.C k57 w aH aC.length aC) (hc0_1 : aC.length ≤ aG) (h : impl_CountTrees.f k aD aC = some r) :
  Calls Try.prog 85 #[.agg #[.int .i64 aD, .slice aH aC.length aG]] w fun e w' => e = .returned (.int .i64 r) ∧ Below w.heap.size w w' := by
 have hu25 := Try.underlying25; have bM := zK_ hr0_1; have bG := zK_ hc0_1; clear hr0_1 hc0_1; have HB := zK_ (Below.refl w.heap.size w); have H : ((impl_GraphOk.f aD aC).bind fun bA => (if bA = true then ((impl_ReducedLaplacian.f k aD aC 0).bind fun bL => ((impl_Determinant.f k bL).bind fun dP => (some dP))) else (some 0))) = some r := h; clear h; obtain ⟨bA, A20, H⟩ := zO_ H; (try dsimp only at H); have A2 := zK_ A20; clear A20; by_cases c3 : bA = true; rotate_left
 ·replace c3 := Bool.eq_false_iff.mpr c3; subst c3; rw [if_neg (show ¬ (false = true) by decide)] at H; obtain rfl := Option.some.inj H; go_enter Try.func85, Try.ntmps85; (go_wp2_with (first | ((with_reducible refine gate_dst (N := 1) rfl ?_); refine box_event ?hg (N := 1) ?hd (cs := #[.int .i64 aD, .slice aH aC.length aG]) (t := 25) ?hr ?_; (case hd => rfl); (case hg => rfl); (case hr => exact zz9); intro aE hg w13 hbox hb; have n_ := zA4 (below_step zz1 hb) hbox (zz10 : w.heap.size ≤ aE) (zz10 : w.heap.size ≤ aE); clear HB; obtain ⟨HB, aA, GW101, GE101⟩ := n_; clear hb hbox hg; have eG := zC20 aA; have eF := zC21 aA; have dZ := blk_frozen aA.out 0; have dY := blk_frozen aA.out 1) | ((with_reducible refine gate_callee (f := 50) rfl ?_); refine goesL_ (some 4) rfl rfl Try.func50 (by kernel_rfl) rfl #[.agg #[.int .i64 aD, .slice aH aC.length aG]] rfl zz4 ?_; (with_reducible refine (impl_GraphOk.calls aD _ _ aC false _ ?side1 ?side2 A2.out).mono ?_); (case side1 => exact zz6); (case side2 => exact bG.out); rintro e w15 ⟨rfl, hb⟩; refine ⟨_, rfl, ?_⟩; have n_ := zA2 (blk_below (g := aE) (o := .cells #[.int .i64 aD, .slice aH aC.length aG] 25 (0, 0)) zz2 hb) (below_step zz0 hb); clear aA HB; obtain ⟨aA, HB⟩ := n_; clear hb))); go_ret; exact ⟨zz7, zz0⟩
 subst c3; rw [if_pos rfl] at H; obtain ⟨bL, A40, H⟩ := zO_ H; (try dsimp only at H); have A4 := zK_ A40; clear A40; obtain ⟨dP, A50, H⟩ := zO_ H; (try dsimp only at H); have A5 := zK_ A50; clear A50; obtain rfl := Option.some.inj H; go_enter Try.func85, Try.ntmps85; (go_wp2_with (first | ((with_reducible refine gate_dst (N := 1) rfl ?_); refine box_event ?hg (N := 1) ?hd (cs := #[.int .i64 aD, .slice aH aC.length aG]) (t := 25) ?hr ?_; (case hd => rfl); (case hg => rfl); (case hr => exact zz9); intro aE hg w6 hbox hb; have n_ := zA4 (below_step zz1 hb) hbox (zz10 : w.heap.size ≤ aE) (zz10 : w.heap.size ≤ aE); clear HB; obtain ⟨HB, aA, GW101, GE101⟩ := n_; clear hb hbox hg; have eE := zC20 aA; have d9 := zC21 aA; have dX := blk_frozen aA.out 0; have dW := blk_frozen aA.out 1) | ((with_reducible refine gate_callee (f := 50) rfl ?_); refine goesL_ (some 4) rfl rfl Try.func50 (by kernel_rfl) rfl #[.agg #[.int .i64 aD, .slice aH aC.length aG]] rfl zz4 ?_; (with_reducible refine (impl_GraphOk.calls aD _ _ aC true _ ?side1 ?side2 A2.out).mono ?_); (case side1 => exact zz6); (case side2 => exact bG.out); rintro e w8 ⟨rfl, hb⟩; refine ⟨_, rfl, ?_⟩; have n_ := zA2 (blk_below (g := aE) (o := .cells #[.int .i64 aD, .slice aH aC.length aG] 25 (0, 0)) zz2 hb) (below_step zz0 hb); clear aA HB; obtain ⟨aA, HB⟩ := n_; clear hb; have d8 := zC20 aA; have d7 := zC21 aA; have dV := blk_frozen aA.out 0; have dU := blk_frozen aA.out 1) | ((with_reducible refine gate_callee (f := 121) rfl ?_); refine goesL_ (some 7) rfl rfl Try.func121 (by kernel_rfl) rfl #[.agg #[.int .i64 aD, .slice aH aC.length aG], .int .i64 0] rfl zz4 ?_; (with_reducible refine (impl_ReducedLaplacian.calls k aD _ _ aC 0 bL _ ?side1 ?side2 A4.out).mono ?_); (case side1 => exact zz6); (case side2 => exact bG.out); rintro e w10 ⟨v104, rfl, ho0, hb⟩; refine ⟨_, rfl, ?_⟩; have n_ := zA3 (Kd.S_lower ho0 (below_size zz0)) (blk_below (g := aE) (o := .cells #[.int .i64 aD, .slice aH aC.length aG] 25 (0, 0)) zz2 hb) (below_step zz0 hb); clear aA HB; obtain ⟨eT, aA, HB⟩ := n_; clear ho0 hb; obtain ⟨Ao11, co11, rI⟩ := Kd.S_slice eT.out; subst rI) | ((with_reducible refine gate_callee (f := 120) rfl ?_); refine goesL_ (some 8) rfl rfl Try.func120 (by kernel_rfl) rfl #[.slice Ao11 bL.length co11] rfl zz4 ?_; (with_reducible refine (impl_Determinant.calls k _ _ bL dP _ ?side1 ?side2 A5.out).mono ?_); (case side1 => repeat (first | exact (Kd.S_reads' eT.out).2.2 | (with_reducible refine Kd.C_alloc ?_ _) | (with_reducible refine Kd.C_drewN ?_ _) | (with_reducible refine Kd.C_drew ?_))); (case side2 => exact (Kd.S_reads' eT.out).2.1); rintro e w12 ⟨rfl, hb⟩; refine ⟨_, rfl, ?_⟩; have n_ := zA3 (Kd.S_below (by (with_reducible repeat (first | apply Kd.S_alloc | apply Kd.S_drewN | apply Kd.S_drew)); exact eT.out) hb) (blk_below (g := aE) (o := .cells #[.int .i64 aD, .slice aH aC.length aG] 25 (0, 0)) zz2 hb) (below_step zz0 hb); clear eT aA HB; obtain ⟨eT, aA, HB⟩ := n_; clear hb))); go_ret; exact ⟨zz7, zz0⟩
def impl_GroupOrder.f (k : Nat) (aD : Int) (aC : List (S57)) : Option (Int) := (impl_CountTrees.f k aD aC).bind fun bA => (some bA)
theorem impl_GroupOrder.mono : ∀ a0 a1 k, LeO (impl_GroupOrder.f k a0 a1) (impl_GroupOrder.f (k + 1) a0 a1) := by
 intro a0 a1 k; unfold impl_GroupOrder.f; repeat' first | (with_reducible apply impl_CountTrees.mono) | (with_reducible exact LeO.refl _) | (with_reducible exact LeO.none _) | (with_reducible refine LeO.ite ?_ ?_) | (with_reducible refine LeO.bind ?_ (fun _ => ?_)) | apply impl_CountTrees.mono | exact LeO.none _ | refine LeO.ite ?_ ?_ | refine LeO.bind ?_ (fun _ => ?_)
theorem impl_GroupOrder.calls (k : Nat) (aD : Int) (aH : Option Addr) (aG : Nat) (aC : List (S57)) (r : Int) (w : World) (hr0_1 : Kd.C k57 w aH aC.length aC) (hc0_1 : aC.length ≤ aG) (h : impl_GroupOrder.f k aD aC = some r) :
  Calls Try.prog 48 #[.agg #[.int .i64 aD, .slice aH aC.length aG]] w fun e w' => e = .returned (.int .i64 r) ∧ Below w.heap.size w w' := by
 have hu25 := Try.underlying25; have bM := zK_ hr0_1; have bG := zK_ hc0_1; clear hr0_1 hc0_1; have HB := zK_ (Below.refl w.heap.size w); have H : ((impl_CountTrees.f k aD aC).bind fun bA => (some bA)) = some r := h; clear h; obtain ⟨bA, A20, H⟩ := zO_ H; (try dsimp only at H); have A2 := zK_ A20; clear A20; obtain rfl := Option.some.inj H; go_enter Try.func48, Try.ntmps48; (go_wp2_with (first | ((with_reducible refine gate_dst (N := 1) rfl ?_); refine box_event ?hg (N := 1) ?hd (cs := #[.int .i64 aD, .slice aH aC.length aG]) (t := 25) ?hr ?_; (case hd => rfl); (case hg => rfl); (case hr => exact zz9); intro aE hg w3 hbox hb; have n_ := zA4 (below_step zz1 hb) hbox (zz10 : w.heap.size ≤ aE) (zz10 : w.heap.size ≤ aE); clear HB; obtain ⟨HB, aA, GW101, GE101⟩ := n_; clear hb hbox hg; have m4 := zC20 aA; have m3 := zC21 aA; have mZ := blk_frozen aA.out 0; have mY := blk_frozen aA.out 1) | ((with_reducible refine gate_callee (f := 85) rfl ?_); refine goesL_ (some 4) rfl rfl Try.func85 (by kernel_rfl) rfl #[.agg #[.int .i64 aD, .slice aH aC.length aG]] rfl zz4 ?_; (with_reducible refine (impl_CountTrees.calls k aD _ _ aC bA _ ?side1 ?side2 A2.out).mono ?_); (case side1 => exact zz6); (case side2 => exact bG.out); rintro e w5 ⟨rfl, hb⟩; refine ⟨_, rfl, ?_⟩; have n_ := zA2 (blk_below (g := aE) (o := .cells #[.int .i64 aD, .slice aH aC.length aG] 25 (0, 0)) zz2 hb) (below_step zz0 hb); clear aA HB; obtain ⟨aA, HB⟩ := n_; clear hb))); go_ret; exact ⟨zz7, zz0⟩
def slices_Index_int_int.l0 : Nat → List Int → Int → Int → Int → Option (Int)
 | 0, _, _, _, _ => none
 | k + 1, x0, x1, x7, x8 => if x8 < x7 then (if 0 ≤ x8 then (if x8 < (x0.length : Int) then (if x1 = (rd x0 x8) then (some x8) else (slices_Index_int_int.l0 k x0 x1 x7 (wrap64 (x8 + 1)))) else (none)) else (none)) else (some (-1))
def slices_Index_int_int.f (k : Nat) (l0 : List Int) (a1 : Int) : Option (Int) := slices_Index_int_int.l0 k l0 a1 (l0.length : Int) 0
theorem slices_Index_int_int.mono_l : ∀ k, (∀ y0 y1 y2 y3, LeO (slices_Index_int_int.l0 k y0 y1 y2 y3) (slices_Index_int_int.l0 (k + 1) y0 y1 y2 y3))
 | 0 => fun _ _ _ _ r h => by simp [slices_Index_int_int.l0] at h
 | k + 1 => by
  have ih0 := slices_Index_int_int.mono_l k
  ·intro y0 y1 y2 y3
   unfold slices_Index_int_int.l0
   exact zm0
theorem slices_Index_int_int.mono : ∀ a0 a1 k, LeO (slices_Index_int_int.f k a0 a1) (slices_Index_int_int.f (k + 1) a0 a1) := by
 intro a0 a1 k; have ih0 := slices_Index_int_int.mono_l k; unfold slices_Index_int_int.f; exact zm0
theorem slices_Index_int_int.calls (k : Nat) (A0 : Option Addr) (c0 : Nat) (l0 : List Int) (a1 : Int) (r : Int) (w : World) (hr0 : Kd.C (Kd.int .i64) w A0 l0.length l0) (hc0 : l0.length ≤ c0) (h : slices_Index_int_int.f k l0 a1 = some r) :
  Calls Try.prog 80 #[.slice A0 l0.length c0, .int .i64 a1] w fun e w' => e = .returned (.int .i64 r) ∧ Drawn0 w w' := by
 have HR0 := zK_ hr0; have HC0 := zK_ hc0; clear hr0 hc0; have H : (slices_Index_int_int.l0 k l0 a1 (l0.length : Int) 0) = some r := h; clear h; have H' := zK_ H; clear H; go_enter Try.func80, Try.ntmps80; go_wp2; (go_loopg [8] k (fun kq v8 w' => ∃ (bK : Int), v8 = .int .i64 bK ∧ Aside0 (slices_Index_int_int.l0 kq l0 a1 (l0.length : Int) bK = some r) ∧ Aside0 (kq ≤ k) ∧ Drawn0 w w')); case atStart => exact ⟨(0), zz5, H', ⟨Nat.le_refl _⟩, by repeat (first | exact Drawn0.refl _ | apply Drawn0.step)⟩
 case round =>
  clear H'; (try clear p2); obtain ⟨bK, rfl, HA, HK1, ⟨m1, rfl⟩⟩ := hrel
  cases gk with
  | zero => exact absurd HA.out (by simp [slices_Index_int_int.l0])
  | succ k1 =>
   have H := HA.out; clear HA; simp only [slices_Index_int_int.l0] at H; by_cases c3 : bK < (l0.length : Int); rotate_left
   ·rw [if_neg c3] at H; have dB := decide_eq_false c3; clear c3; obtain rfl := Option.some.inj H; go_wp2; go_ret; exact ⟨zz5, by repeat (first | exact Drawn0.refl _ | apply Drawn0.step)⟩
   rw [if_pos c3] at H; have dB := decide_eq_true c3; clear c3; by_cases c4 : 0 ≤ bK; rotate_left
   ·rw [if_neg c4] at H; exact absurd H (by simp)
   rw [if_pos c4] at H; have cY := decide_eq_true c4; clear c4; by_cases c5 : bK < (l0.length : Int); rotate_left
   ·rw [if_neg c5] at H; exact absurd H (by simp)
   rw [if_pos c5] at H; have dF := decide_eq_true c5; clear c5; by_cases c6 : a1 = (rd l0 bK)
   ·rw [if_pos c6] at H; have eN : (a1 == (rd l0 bK)) = true := beq_iff_eq.mpr c6; have kS : (a1 != (rd l0 bK)) = false := bne_eq_false_iff_eq.mpr c6; clear c6; obtain rfl := Option.some.inj H; have p101 : 0 ≤ (bK : Int) := of_decide_eq_true zz3; have q101 : bK < (l0.length : Int) := of_decide_eq_true zz3; obtain ⟨cF, e101, a8⟩ := Kd.at_int HR0.out bK p101 q101; cases e101; replace p101 := eq_true p101; replace q101 := eq_true q101; go_wp2; go_ret; exact ⟨zz5, by repeat (first | exact Drawn0.refl _ | apply Drawn0.step)⟩
   rw [if_neg c6] at H; have eN : (a1 == (rd l0 bK)) = false := beq_eq_false_iff_ne.mpr c6; have kS : (a1 != (rd l0 bK)) = true := bne_iff_ne.mpr c6; have H' := zK_ H; clear H; have p101 : 0 ≤ (bK : Int) := of_decide_eq_true zz3; have q101 : bK < (l0.length : Int) := of_decide_eq_true zz3; obtain ⟨cF, e101, a8⟩ := Kd.at_int HR0.out bK p101 q101; cases e101; replace p101 := eq_true p101; replace q101 := eq_true q101; go_wp2; go_roundg k1; (case measure => have := HK1.out; omega); case rel => exact ⟨(wrap64 (bK + 1)), zz5, H', ⟨zz34⟩, by repeat (first | exact Drawn0.refl _ | apply Drawn0.step)⟩
def slices_Contains_int_int.f (k : Nat) (l0 : List Int) (a1 : Int) : Option (Bool) := (slices_Index_int_int.f k l0 a1).bind fun cZ => (some (decide (cZ ≥ 0)))
theorem slices_Contains_int_int.mono : ∀ a0 a1 k, LeO (slices_Contains_int_int.f k a0 a1) (slices_Contains_int_int.f (k + 1) a0 a1) := by
 intro a0 a1 k; unfold slices_Contains_int_int.f; repeat' first | (with_reducible apply slices_Index_int_int.mono) | (with_reducible exact LeO.refl _) | (with_reducible exact LeO.none _) | (with_reducible refine LeO.ite ?_ ?_) | (with_reducible refine LeO.bind ?_ (fun _ => ?_)) | apply slices_Index_int_int.mono | exact LeO.none _ | refine LeO.ite ?_ ?_ | refine LeO.bind ?_ (fun _ => ?_)
theorem slices_Contains_int_int.calls (k : Nat) (A0 : Option Addr) (c0 : Nat) (l0 : List Int) (a1 : Int) (r : Bool) (w : World) (hr0 : Kd.C (Kd.int .i64) w A0 l0.length l0) (hc0 : l0.length ≤ c0) (h : slices_Contains_int_int.f k l0 a1 = some r) :
  Calls Try.prog 43 #[.slice A0 l0.length c0, .int .i64 a1] w fun e w' => e = .returned (.bool r) ∧ Drawn0 w w' := by
 have HR0 := zK_ hr0; have HC0 := zK_ hc0; clear hr0 hc0; have H : ((slices_Index_int_int.f k l0 a1).bind fun cZ => (some (decide (cZ ≥ 0)))) = some r := h; clear h; obtain ⟨cZ, A30, H⟩ := zO_ H; (try dsimp only at H); have A3 := zK_ A30; clear A30; obtain rfl := Option.some.inj H; go_enter Try.func43, Try.ntmps43; (go_wp2_with (first | ((with_reducible refine gate_callee (f := 80) rfl ?_); refine goesL_ (some 7) rfl rfl Try.func80 (by kernel_rfl) rfl #[.slice A0 l0.length c0, .int .i64 a1] rfl zz4 ?_; (with_reducible refine (slices_Index_int_int.calls k _ _ l0 a1 cZ _ ?side1 ?side2 A3.out).mono ?_); (case side1 => exact zz26); (case side2 => exact HC0.out); rintro e w' ⟨rfl, ⟨nd, rfl⟩⟩; refine ⟨_, rfl, ?_⟩))); go_ret; exact ⟨zz5, by repeat (first | exact Drawn0.refl _ | apply Drawn0.step)⟩
mutual
def impl_burn.l0 : Nat → List Int → List Int → Int → List (S57) → Option (List Int)
 | 0, _, _, _, _ => none
 | k + 1, x1, x7, aM, aJ => impl_burn.l1 k x1 x7 (-1) 0 aM aJ
def impl_burn.l1 : Nat → List Int → List Int → Int → Int → Int → List (S57) → Option (List Int)
 | 0, _, _, _, _, _, _ => none
 | k + 1, x1, x7, x8, x9, aM, aJ => if x9 < aM then (impl_burn.j2 k x1 x7 x8 x9 (decide (x8 < 0)) aM aJ) else (impl_burn.j2 k x1 x7 x8 x9 false aM aJ)
def impl_burn.j2 : Nat → List Int → List Int → Int → Int → Bool → Int → List (S57) → Option (List Int)
 | 0, _, _, _, _, _, _, _ => none
 | k + 1, x1, x7, x8, x9, pW, aM, aJ => if pW = true then (impl_burn.l2 k x1 x7 x8 x9 0 x7 (x7.length : Int) 0 aM aJ) else (if x8 < 0 then (some x7) else (if x7.length < 17592186044416 then (impl_burn.l0 k x1 (x7 ++ [x8]) aM aJ) else (none)))
def impl_burn.l2 : Nat → List Int → List Int → Int → Int → Int → List Int → Int → Int → Int → List (S57) → Option (List Int)
 | 0, _, _, _, _, _, _, _, _, _, _ => none
 | k + 1, x1, x7, x8, x9, fE, rW, oF, pV, aM, aJ => if pV < oF then (if 0 ≤ pV then (if pV < (rW.length : Int) then ((impl_Multiplicity.f k aM aJ x9 (rd rW pV)).bind fun lZ => (impl_burn.l2 k x1 x7 x8 x9 (wrap64 (fE + lZ)) rW oF (wrap64 (pV + 1)) aM aJ)) else (none)) else (none)) else ((slices_Contains_int_int.f k x7 x9).bind fun kP => (if kP = true then (impl_burn.l1 k x1 x7 x8 (wrap64 (x9 + 1)) aM aJ) else (if 0 ≤ x9 then (if x9 < (x1.length : Int) then (if (rd x1 x9) < fE then (impl_burn.l1 k x1 x7 x9 (wrap64 (x9 + 1)) aM aJ) else (impl_burn.l1 k x1 x7 x8 (wrap64 (x9 + 1)) aM aJ)) else (none)) else (none))))
end
def impl_burn.f (k : Nat) (aD : Int) (aC : List (S57)) (l1 : List Int) (a2 : Int) : Option (List Int) := impl_burn.l0 k l1 (([a2] : List Int)) aD aC
theorem impl_burn.mono_l : ∀ k, (∀ y0 y1 y2 y3, LeO (impl_burn.l0 k y0 y1 y2 y3) (impl_burn.l0 (k + 1) y0 y1 y2 y3)) ∧ (∀ y0 y1 y2 y3 y4 y5, LeO (impl_burn.l1 k y0 y1 y2 y3 y4 y5) (impl_burn.l1 (k + 1) y0 y1 y2 y3 y4 y5)) ∧ (∀ y0 y1 y2 y3 y4 y5 y6, LeO (impl_burn.j2 k y0 y1 y2 y3 y4 y5 y6) (impl_burn.j2 (k + 1) y0 y1 y2 y3 y4 y5 y6)) ∧ (∀ y0 y1 y2 y3 y4 y5 y6 y7 y8 y9, LeO (impl_burn.l2 k y0 y1 y2 y3 y4 y5 y6 y7 y8 y9) (impl_burn.l2 (k + 1) y0 y1 y2 y3 y4 y5 y6 y7 y8 y9))
 | 0 => ⟨fun _ _ _ _ r h => by simp [impl_burn.l0] at h, fun _ _ _ _ _ _ r h => by simp [impl_burn.l1] at h, fun _ _ _ _ _ _ _ r h => by simp [impl_burn.j2] at h, fun _ _ _ _ _ _ _ _ _ _ r h => by simp [impl_burn.l2] at h⟩
 | k + 1 => by
  obtain ⟨ih0, ih1, ih2, ih3⟩ := impl_burn.mono_l k
  refine ⟨?_, ?_, ?_, ?_⟩
  ·intro y0 y1 y2 y3
   unfold impl_burn.l0
   exact zm2
  ·intro y0 y1 y2 y3 y4 y5
   unfold impl_burn.l1
   exact zm2
  ·intro y0 y1 y2 y3 y4 y5 y6
   unfold impl_burn.j2
   exact zm2
  ·intro y0 y1 y2 y3 y4 y5 y6 y7 y8 y9
   unfold impl_burn.l2
   exact zm2
theorem impl_burn.mono : ∀ a0 a1 a2 a3 k, LeO (impl_burn.f k a0 a1 a2 a3) (impl_burn.f (k + 1) a0 a1 a2 a3) := by
 intro a0 a1 a2 a3 k; obtain ⟨ih0, ih1, ih2, ih3⟩ := impl_burn.mono_l k; unfold impl_burn.f; exact zm2
theorem impl_burn.calls (k : Nat) (aD : Int) (aH : Option Addr) (aG : Nat) (aC : List (S57)) (A1 : Option Addr) (c1 : Nat) (l1 : List Int) (a2 : Int) (r : List Int) (w : World) (hr0_1 : Kd.C k57 w aH aC.length aC) (hc0_1 : aC.length ≤ aG) (hr1 : Kd.C (Kd.int .i64) w A1 l1.length l1) (hc1 : l1.length ≤ c1) (h : impl_burn.f k aD aC l1 a2 = some r) :
  Calls Try.prog 89 #[.agg #[.int .i64 aD, .slice aH aC.length aG], .slice A1 l1.length c1, .int .i64 a2] w fun e w' => ∃ v0_ : Value, e = .returned (v0_) ∧ Kd.R (Kd.int .i64) 3 w' w.heap.size (fun _ => True) v0_ r ∧ Below w.heap.size w w' := by
 have hu25 := Try.underlying25; have bM := zK_ hr0_1; have bG := zK_ hc0_1; clear hr0_1 hc0_1; have HR1 := zK_ hr1; have HC1 := zK_ hc1; clear hr1 hc1; have HB := zK_ (Below.refl w.heap.size w); have H : (impl_burn.l0 k l1 (([a2] : List Int)) aD aC) = some r := h; clear h; obtain ⟨i2, hy_⟩ : ∃ y_ : List Int, y_ = (([a2] : List Int)) := ⟨_, rfl⟩; (replace H : (impl_burn.l0 k l1 i2 aD aC) = some r := zzY); have gT := zK_ hy_; clear hy_; have H' := zK_ H; clear H; go_enter Try.func89, Try.ntmps89; (go_wp2_with (first | ((with_reducible refine gate_dst (N := 3) rfl ?_); refine box_event ?hg (N := 3) ?hd (cs := #[.int .i64 aD, .slice aH aC.length aG]) (t := 25) ?hr ?_; (case hd => rfl); (case hg => rfl); (case hr => exact zz9); intro aE hg w4 hbox hb; have n_ := zA4 (below_step zz1 hb) hbox (zz10 : w.heap.size ≤ aE) (zz10 : w.heap.size ≤ aE); clear HB; obtain ⟨HB, aA, GW101, GE101⟩ := n_; clear hb hbox hg) | ((with_reducible refine gate_dst (N := 14) rfl ?_); refine Kd.R_lit (Kd.int .i64) _ 3 ?hg (N := 14) ?hd (xs := ([a2] : List Int)) (inner := [.int .i64 a2]) (ok := fun _ => True) (okp := fun _ => True) ?hr ?hp (fun _ hk => hk) trivial (Below.refl _ _) (Nat.le_refl _) (by simp) ?_; (case hd => rfl); (case hg => rfl); (case hr => exact zz9); (case hp => exact (Reps.one (show Kd.M (Kd.int .i64) _ _ _ a2 [.int .i64 a2] from rfl) (Reps.none _ _))); intro v103 w5 ho6 hb hg_ hnew_; clear hg_ hnew_; (first | rw [← gT.out] at ho6 | (simp only [Int.reduceToNat] at ho6; rw [← gT.out] at ho6)); have n_ := zA3 (Kd.R_lower ho6 (below_size zz0)) (blk_below (g := aE) (o := .cells #[.int .i64 aD, .slice aH aC.length aG] 25 (0, 0)) zz2 hb) (below_step zz0 hb); clear aA HB; obtain ⟨dT, aA, HB⟩ := n_; clear hb ho6))); (go_loopg [7] k (fun kq v7 w' => ∃ (b8 : List Int), Aside0 (impl_burn.l0 kq l1 b8 aD aC = some r) ∧ Aside0 (kq ≤ k) ∧ Aside0 (Kd.R (Kd.int .i64) 3 w' w.heap.size (fun _ => True) v7 b8) ∧ Aside0 (w'.heap[aE]? = some (.cells #[.int .i64 aD, (.slice aH aC.length aG)] 25 (0, 0))) ∧ Aside0 (Below w.heap.size w w'))); case atStart => exact ⟨(i2), H', ⟨Nat.le_refl _⟩, ⟨by (with_reducible repeat (first | apply Kd.R_alloc | apply Kd.R_drewN | apply Kd.R_drew)); exact dT.out⟩, ⟨zz2⟩, ⟨zz0⟩⟩
 case round =>
  clear H'; (try clear c1); (try clear p2); obtain ⟨b8, HA, HK1, f2, aA, HB⟩ := hrel
  cases gk with
  | zero => exact absurd HA.out (by simp [impl_burn.l0])
  | succ k1 =>
   have H := HA.out; clear HA; simp only [impl_burn.l0] at H; have H' := zK_ H; clear H; go_wp2; (go_loopg [8, 9] k1 (fun kq v8 v9 w' => ∃ (j3 : Int) (cW : Int), v8 = .int .i64 j3 ∧ v9 = .int .i64 cW ∧ Aside0 (impl_burn.l1 kq l1 b8 j3 cW aD aC = some r) ∧ Aside0 (kq ≤ k1) ∧ Aside0 (Kd.R (Kd.int .i64) 3 w' w.heap.size (fun _ => True) u7 b8) ∧ Aside0 (w'.heap[aE]? = some (.cells #[.int .i64 aD, (.slice aH aC.length aG)] 25 (0, 0))) ∧ Aside0 (Below w.heap.size w w'))); case atStart => exact ⟨((-1)), (0), zz5, zz5, H', ⟨Nat.le_refl _⟩, ⟨zz25⟩, ⟨zz2⟩, ⟨zz0⟩⟩
   case round =>
    clear H'; (try clear c1); (try clear p2); (try clear p2); obtain ⟨j3, cW, rfl, rfl, HA, HK2, f2, aA, HB⟩ := hrel
    cases gk with
    | zero => exact absurd HA.out (by simp [impl_burn.l1])
    | succ k2 =>
     have H := HA.out; clear HA; simp only [impl_burn.l1] at H; have HC7 := zK_ H; clear H; (go_upto_region 4 with (fail)); go_cut [22] (fun v22 wc => ∃ (kq : Nat) (m9 : Bool), v22 = .bool m9 ∧ Aside0 (impl_burn.j2 kq l1 b8 j3 cW m9 aD aC = some r) ∧ Aside0 (kq ≤ k2) ∧ Aside0 (Kd.R (Kd.int .i64) 3 wc w.heap.size (fun _ => True) u7 b8) ∧ Aside0 (wc.heap[aE]? = some (.cells #[.int .i64 aD, (.slice aH aC.length aG)] 25 (0, 0))) ∧ Aside0 (Below w.heap.size w wc))
     case first =>
      have H := HC7.out; clear HC7; by_cases c8 : cW < aD
      ·rw [if_pos c8] at H; have fL := decide_eq_true c8; clear c8; (first | rw [fL] | (simp only [i64_w, i32_w]; rw [fL]) | skip); have H' := zK_ H; clear H; have d8 := zC20 aA; have d7 := zC21 aA; have dV := blk_frozen aA.out 0; have dU := blk_frozen aA.out 1; go_wp2; (go_meet); case rel => exact ⟨_, (decide (j3 < 0)), zz5, H', ⟨by have := HK1.out; have := HK2.out; first | omega | exact Nat.le_refl _⟩, ⟨zz25⟩, ⟨zz2⟩, ⟨zz0⟩⟩
      rw [if_neg c8] at H; have fL := decide_eq_false c8; clear c8; (first | rw [fL] | (simp only [i64_w, i32_w]; rw [fL]) | skip); have H' := zK_ H; clear H; have cN := zC20 aA; have cM := zC21 aA; have cK := blk_frozen aA.out 0; have cJ := blk_frozen aA.out 1; go_wp2; (go_meet); case rel => exact ⟨_, (false), zz5, H', ⟨by have := HK1.out; have := HK2.out; first | omega | exact Nat.le_refl _⟩, ⟨zz25⟩, ⟨zz2⟩, ⟨zz0⟩⟩
     case rest =>
      clear HC7; (try clear c1); (try clear p2); (try clear c8); (try clear fL); (try clear cN); (try clear cM); (try clear d8); (try clear d7); (try clear cK); (try clear cJ); (try clear dV); (try clear dU); (try clear p2); obtain ⟨kq, m9, rfl, HA, HJ6, f2, aA, HB⟩ := hcut
      cases kq with
      | zero => exact absurd HA.out (by simp [impl_burn.j2])
      | succ kj6 =>
       have H := HA.out; clear HA; simp only [impl_burn.j2] at H; by_cases c11 : m9 = true; rotate_left
       ·replace c11 := Bool.eq_false_iff.mpr c11; subst c11; rw [if_neg (show ¬ (false = true) by decide)] at H; by_cases c24 : j3 < 0
        ·rw [if_pos c24] at H; have pE := decide_eq_true c24; clear c24; obtain rfl := Option.some.inj H; go_wp2; go_ret; exact ⟨_, zz7, zz25, zz0⟩
        rw [if_neg c24] at H; have pE := decide_eq_false c24; clear c24; by_cases c25 : b8.length < 17592186044416; rotate_left
        ·rw [if_neg c25] at H; exact absurd H (by simp)
        rw [if_pos c25] at H; have mO := zK_ c25; clear c25; obtain ⟨eI, hy_⟩ : ∃ y_ : List Int, y_ = (b8 ++ [j3]) := ⟨_, rfl⟩; (replace H : (impl_burn.l0 kj6 l1 eI aD aC) = some r := zzY); have iJ := zK_ hy_; clear hy_; have H' := zK_ H; clear H; (go_wp2_with (first | ((with_reducible refine gate_builtin (b := .append) (xs := #[.tmp 54, .tmp 56]) rfl ?_); at_builtin; refine Kd.R_append (Kd.int .i64) (w0 := w) w.heap.size rfl (.tmp 54) (.tmp 56) 26 3 (.int .i64 0) 8 rfl Try.underlying26 info3 rfl (by decide) (by omega) u7 b8 j3 [.int .i64 j3] (fun _ => True) (fun _ => False) rfl rfl ?aP (fun _ hk => hk.elim) ?aF ?aO ?aB ?aS ?aL ?_; (case aP => exact rfl); (case aB => exact zz0); (case aF => exact (fun _ _ => trivial)); (case aO => exact zz25); (case aS => exact (below_size zz0)); (case aL => have := mO.out; omega); intro v106 w26 ho hb hg hat; rw [← iJ.out] at ho; have n_ := zA3 (blk_grown (g := aE) (o := .cells #[.int .i64 aD, .slice aH aC.length aG] 25 (0, 0)) zz2 hg (Kd.R_ne f2.out aA.out (by decide))) hb ho; clear aA HB f2; obtain ⟨aA, HB, eM⟩ := n_; clear ho hb hg hat))); go_roundg kj6; (case measure => have := HK1.out; have := HK2.out; have := HJ6.out; omega); case rel => exact ⟨(eI), H', ⟨by have := HK1.out; have := HK2.out; have := HJ6.out; omega⟩, ⟨by (with_reducible repeat (first | apply Kd.R_alloc | apply Kd.R_drewN | apply Kd.R_drew)); exact eM.out⟩, ⟨zz2⟩, ⟨zz0⟩⟩
       subst c11; rw [if_pos rfl] at H; have H' := zK_ H; clear H; obtain ⟨Ao12, co12, o9⟩ := Kd.R_slice f2.out; subst o9; go_wp2; (go_loopg [10, 27] kj6 (fun kq v10 v27 w' => ∃ (lY : Int) (g7 : Int), v10 = .int .i64 lY ∧ v27 = .int .i64 g7 ∧ Aside0 (impl_burn.l2 kq l1 b8 j3 cW lY b8 (b8.length : Int) g7 aD aC = some r) ∧ Aside0 (kq ≤ kj6) ∧ Aside0 (Kd.R (Kd.int .i64) 3 w' w.heap.size (fun _ => True) (.slice Ao12 b8.length co12) b8) ∧ Aside0 (Kd.R (Kd.int .i64) 3 w' w.heap.size (fun _ => True) (.slice Ao12 b8.length co12) b8) ∧ Aside0 (w'.heap[aE]? = some (.cells #[.int .i64 aD, (.slice aH aC.length aG)] 25 (0, 0))) ∧ Aside0 (Below w.heap.size w w'))); case atStart => exact ⟨(0), (0), zz5, zz5, H', ⟨Nat.le_refl _⟩, ⟨zz25⟩, ⟨zz25⟩, ⟨zz2⟩, ⟨zz0⟩⟩
       case round =>
        clear H'; (try clear c1); (try clear p2); (try clear c8); (try clear fL); (try clear c11); (try clear cN); (try clear cM); (try clear d8); (try clear d7); (try clear cK); (try clear cJ); (try clear dV); (try clear dU); (try clear p2); obtain ⟨lY, g7, rfl, rfl, HA, HK4, f2, mP, aA, HB⟩ := hrel
        cases gk with
        | zero => exact absurd HA.out (by simp [impl_burn.l2])
        | succ k4 =>
         have H := HA.out; clear HA; simp only [impl_burn.l2] at H; by_cases c13 : g7 < (b8.length : Int)
         ·rw [if_pos c13] at H; have iW := decide_eq_true c13; clear c13; by_cases c14 : 0 ≤ g7; rotate_left
          ·rw [if_neg c14] at H; exact absurd H (by simp)
          rw [if_pos c14] at H; have gE := decide_eq_true c14; clear c14; by_cases c15 : g7 < (b8.length : Int); rotate_left
          ·rw [if_neg c15] at H; exact absurd H (by simp)
          rw [if_pos c15] at H; have iF := decide_eq_true c15; clear c15; obtain ⟨lZ, A160, H⟩ := zO_ H; (try dsimp only at H); have A16 := zK_ A160; clear A160; have H' := zK_ H; clear H; have p108 : 0 ≤ (g7 : Int) := of_decide_eq_true zz3; have q108 : g7 < (b8.length : Int) := of_decide_eq_true zz3; obtain ⟨BI, e108, tZ⟩ := Kd.at_int (Kd.R_reads' mP.out).2.2 g7 p108 q108; cases e108; replace p108 := eq_true p108; replace q108 := eq_true q108; have iR := zC20 aA; have iQ := zC21 aA; have iN := blk_frozen aA.out 0; have iM := blk_frozen aA.out 1; (go_wp2_with (first | ((with_reducible refine gate_callee (f := 123) rfl ?_); refine goesL_ (some 35) rfl rfl Try.func123 (by kernel_rfl) rfl #[.agg #[.int .i64 aD, .slice aH aC.length aG], .int .i64 cW, .int .i64 (rd b8 g7)] rfl zz4 ?_; (with_reducible refine (impl_Multiplicity.calls k4 aD _ _ aC cW (rd b8 g7) lZ _ ?side1 ?side2 A16.out).mono ?_); (case side1 => exact zz6); (case side2 => exact bG.out); rintro e w18 ⟨rfl, hb⟩; refine ⟨_, rfl, ?_⟩; have n_ := zA4 (Kd.R_below zz25 hb) (Kd.R_below (by (with_reducible repeat (first | apply Kd.R_alloc | apply Kd.R_drewN | apply Kd.R_drew)); exact mP.out) hb) (blk_below (g := aE) (o := .cells #[.int .i64 aD, .slice aH aC.length aG] 25 (0, 0)) zz2 hb) (below_step zz0 hb); clear f2 mP aA HB; obtain ⟨f2, mP, aA, HB⟩ := n_; clear hb))); go_roundg k4; (case measure => have := HK1.out; have := HK2.out; have := HJ6.out; have := HK4.out; omega); case rel => exact ⟨(wrap64 (lY + lZ)), (wrap64 (g7 + 1)), zz5, zz5, H', ⟨by have := HK1.out; have := HK2.out; have := HJ6.out; have := HK4.out; omega⟩, ⟨zz25⟩, ⟨by (with_reducible repeat (first | apply Kd.R_alloc | apply Kd.R_drewN | apply Kd.R_drew)); exact mP.out⟩, ⟨zz2⟩, ⟨zz0⟩⟩
         rw [if_neg c13] at H; have iW := decide_eq_false c13; clear c13; obtain ⟨kP, A190, H⟩ := zO_ H; (try dsimp only at H); have A19 := zK_ A190; clear A190; by_cases c20 : kP = true
         ·subst c20; rw [if_pos rfl] at H; have H' := zK_ H; clear H; (go_wp2_with (first | ((with_reducible refine gate_callee (f := 43) rfl ?_); refine goesL_ (some 40) rfl rfl Try.func43 (by kernel_rfl) rfl #[.slice Ao12 b8.length co12, .int .i64 cW] rfl zz4 ?_; (with_reducible refine (slices_Contains_int_int.calls k4 _ _ b8 cW true _ ?side1 ?side2 A19.out).mono ?_); (case side1 => repeat (first | exact (Kd.R_reads' f2.out).2.2 | (with_reducible refine Kd.C_alloc ?_ _) | (with_reducible refine Kd.C_drewN ?_ _) | (with_reducible refine Kd.C_drew ?_))); (case side2 => exact (Kd.R_reads' f2.out).2.1); rintro e w' ⟨rfl, ⟨nd, rfl⟩⟩; refine ⟨_, rfl, ?_⟩))); go_roundg k4; (case measure => have := HK1.out; have := HK2.out; have := HJ6.out; have := HK4.out; omega); case rel => exact ⟨(j3), (wrap64 (cW + 1)), zz5, zz5, H', ⟨by have := HK1.out; have := HK2.out; have := HJ6.out; have := HK4.out; omega⟩, ⟨zz25⟩, ⟨zz2⟩, ⟨zz0⟩⟩
         replace c20 := Bool.eq_false_iff.mpr c20; subst c20; rw [if_neg (show ¬ (false = true) by decide)] at H; by_cases c21 : 0 ≤ cW; rotate_left
         ·rw [if_neg c21] at H; exact absurd H (by simp)
         rw [if_pos c21] at H; have iV := decide_eq_true c21; clear c21; by_cases c22 : cW < (l1.length : Int); rotate_left
         ·rw [if_neg c22] at H; exact absurd H (by simp)
         rw [if_pos c22] at H; have kY := decide_eq_true c22; clear c22; by_cases c23 : (rd l1 cW) < lY
         ·rw [if_pos c23] at H; have nX := decide_eq_true c23; clear c23; have H' := zK_ H; clear H; (go_wp2_with (first | ((with_reducible refine gate_callee (f := 43) rfl ?_); refine goesL_ (some 40) rfl rfl Try.func43 (by kernel_rfl) rfl #[.slice Ao12 b8.length co12, .int .i64 cW] rfl zz4 ?_; (with_reducible refine (slices_Contains_int_int.calls k4 _ _ b8 cW false _ ?side1 ?side2 A19.out).mono ?_); (case side1 => repeat (first | exact (Kd.R_reads' f2.out).2.2 | (with_reducible refine Kd.C_alloc ?_ _) | (with_reducible refine Kd.C_drewN ?_ _) | (with_reducible refine Kd.C_drew ?_))); (case side2 => exact (Kd.R_reads' f2.out).2.1); rintro e w' ⟨rfl, ⟨nd, rfl⟩⟩; refine ⟨_, rfl, ?_⟩; have p111 : 0 ≤ (cW : Int) := of_decide_eq_true zz3; have q111 : cW < (l1.length : Int) := of_decide_eq_true zz3; obtain ⟨tH, e111, g4⟩ := Kd.at_int HR1.out cW p111 q111; cases e111; replace g4 := (HB.out.cell (World.block_lt_of_cell? w _ g4)).trans g4; replace p111 := eq_true p111; replace q111 := eq_true q111))); go_roundg k4; (case measure => have := HK1.out; have := HK2.out; have := HJ6.out; have := HK4.out; omega); case rel => exact ⟨(cW), (wrap64 (cW + 1)), zz5, zz5, H', ⟨by have := HK1.out; have := HK2.out; have := HJ6.out; have := HK4.out; omega⟩, ⟨zz25⟩, ⟨zz2⟩, ⟨zz0⟩⟩
         rw [if_neg c23] at H; have nX := decide_eq_false c23; clear c23; have H' := zK_ H; clear H; (go_wp2_with (first | ((with_reducible refine gate_callee (f := 43) rfl ?_); refine goesL_ (some 40) rfl rfl Try.func43 (by kernel_rfl) rfl #[.slice Ao12 b8.length co12, .int .i64 cW] rfl zz4 ?_; (with_reducible refine (slices_Contains_int_int.calls k4 _ _ b8 cW false _ ?side1 ?side2 A19.out).mono ?_); (case side1 => repeat (first | exact (Kd.R_reads' f2.out).2.2 | (with_reducible refine Kd.C_alloc ?_ _) | (with_reducible refine Kd.C_drewN ?_ _) | (with_reducible refine Kd.C_drew ?_))); (case side2 => exact (Kd.R_reads' f2.out).2.1); rintro e w' ⟨rfl, ⟨nd, rfl⟩⟩; refine ⟨_, rfl, ?_⟩; have p111 : 0 ≤ (cW : Int) := of_decide_eq_true zz3; have q111 : cW < (l1.length : Int) := of_decide_eq_true zz3; obtain ⟨tH, e111, g4⟩ := Kd.at_int HR1.out cW p111 q111; cases e111; replace g4 := (HB.out.cell (World.block_lt_of_cell? w _ g4)).trans g4; replace p111 := eq_true p111; replace q111 := eq_true q111))); go_roundg k4; (case measure => have := HK1.out; have := HK2.out; have := HJ6.out; have := HK4.out; omega); case rel => exact ⟨(j3), (wrap64 (cW + 1)), zz5, zz5, H', ⟨by have := HK1.out; have := HK2.out; have := HJ6.out; have := HK4.out; omega⟩, ⟨zz25⟩, ⟨zz2⟩, ⟨zz0⟩⟩
end Go.Proofs.Ytnbljcgdgblgoaa.P
end

section
namespace Go.Proofs.Ytnbljcgdgblgoaa.P
open Go.RowKit Go.Proofs.YtnbljcgdgblgoaaW.PrintWords Go.Proofs.YtnbljcgdgblgoaaW.PrintLast Go.Proofs.YtnbljcgdgblgoaaW.PrintMore
attribute [local go_sem] max2_int min2_int max_two min_two max_three min_three max_four min_four
set_option linter.unusedVariables false
set_option linter.unusedSimpArgs false
def impl_copyInts.f (l0 : List Int) : Option (List Int) := if ([] : List Int).length + l0.length < 17592186044416 then (some (([] : List Int) ++ l0)) else (none)
theorem impl_copyInts.calls (A0 : Option Addr) (c0 : Nat) (l0 : List Int) (r : List Int) (w : World) (hr0 : Kd.C (Kd.int .i64) w A0 l0.length l0) (hc0 : l0.length ≤ c0) (h : impl_copyInts.f l0 = some r) :
  Calls Try.prog 86 #[.slice A0 l0.length c0] w fun e w' => ∃ v0_ : Value, e = .returned (v0_) ∧ Kd.R (Kd.int .i64) 3 w' w.heap.size (fun _ => True) v0_ r ∧ Below w.heap.size w w' := by
 have HR0 := zK_ hr0; have HC0 := zK_ hc0; clear hr0 hc0; have HB := zK_ (Below.refl w.heap.size w); have H : (if ([] : List Int).length + l0.length < 17592186044416 then (some (([] : List Int) ++ l0)) else (none)) = some r := h; clear h; by_cases c2 : ([] : List Int).length + l0.length < 17592186044416; rotate_left
 ·rw [if_neg c2] at H; exact absurd H (by simp)
 rw [if_pos c2] at H; have yL := zK_ c2; clear c2; obtain ⟨fA, hy_⟩ : ∃ y_ : List Int, y_ = (([] : List Int) ++ l0) := ⟨_, rfl⟩; (replace H : (some fA) = some r := zzY); have gF := zK_ hy_; clear hy_; obtain rfl := Option.some.inj H; go_enter Try.func86, Try.ntmps86; (go_wp2_with (first | ((with_reducible refine gate_builtin (b := .append) (xs := #[.const (.slice none 0 0), .tmp 3]) rfl ?_); at_builtin; refine Kd.R_append_rows (Kd.int .i64) (w0 := w) w.heap.size rfl (.const (.slice none 0 0)) (.tmp 3) 26 3 (.int .i64 0) 8 rfl Try.underlying26 info3 rfl (by decide) (by omega) (.slice none 0 0) ([] : List Int) l0 _ _ _ (fun _ => True) (fun _ => False) rfl rfl ?aO ?aR (fun _ _ h => h) (fun _ h => h.elim) ?aF ?aB ?aS ?aL ?_; (case aR => exact zz26); (case aB => exact zz1); (case aF => exact (fun _ _ => trivial)); (case aO => exact ((Kd.R_nil _ _ _ _ (fun _ => True)))); (case aS => exact (below_size zz1)); (case aL => have := yL.out; omega); intro v102 w3 ho hb hg hat; rw [← gF.out] at ho; have n_ := zA2 hb ho; clear HB; obtain ⟨HB, jR⟩ := n_; clear ho hb hg hat))); go_ret; exact ⟨_, zz7, zz40, zz1⟩
def impl_reducedAt.pr (k : Nat) (a0 : Int) (es : List S57) (q : Int) (x : List Int) : Bool := match impl_burn.f k a0 es x q with | some r => decide ((r.length : Int) < a0) | none => false
structure impl_reducedAt.Ctx (a0 q : Int) (es : List S57) (A0 : Option Addr) (c0 bg bq g cap : Nat) (ok : Nat → Prop) (f : Nat → Nat) (cur : Array Value) (rows : List (List Int)) (w0 w : World) : Prop where
 hb : Below w0.heap.size w0 w
 hg : w.heap[bg]? = some (.cells #[.int .i64 a0, .slice A0 es.length c0] 25 (0, 0))
 hq : w.heap[bq]? = some (.cells #[.int .i64 q] 3 (0, 0))
 hc : w.heap[g]? = some (.cells cur 26 (0, 0))
 hH : Cf.Heads w w0.heap.size ok f cur rows.zipIdx
theorem impl_reducedAt.Ctx.step {a0 q : Int} {es : List S57} {A0 : Option Addr} {c0 bg bq g cap : Nat} {ok : Nat → Prop} {f : Nat → Nat} {cur : Array Value} {rows : List (List Int)} {w0 w w1 : World} (h : impl_reducedAt.Ctx a0 q es A0 c0 bg bq g cap ok f cur rows w0 w) (hb : Below w.heap.size w w1) : impl_reducedAt.Ctx a0 q es A0 c0 bg bq g cap ok f cur rows w0 w1 :=
 ⟨below_step h.hb hb, blk_below h.hg hb, blk_below h.hq hb, blk_below h.hc hb, Cf.heads_step h.hH fun k _ hlt => hb.block k hlt⟩
theorem impl_reducedAt.Ctx.row {a0 q : Int} {es : List S57} {A0 : Option Addr} {c0 bg bq g cap : Nat} {ok : Nat → Prop} {f : Nat → Nat} {cur : Array Value} {rows : List (List Int)} {w0 w : World} (h : impl_reducedAt.Ctx a0 q es A0 c0 bg bq g cap ok f cur rows w0 w) {j : Nat} (hj : j < rows.length) : ∃ A c, cur[j]? = some (.slice A rows[j].length c) ∧ Kd.R (Kd.int .i64) 3 w w0.heap.size (fun k => ok k ∧ f k = j) (.slice A rows[j].length c) rows[j] := by
 obtain ⟨v, hv, hR⟩ := h.hH j rows[j] j (by rw [List.getElem?_zipIdx, List.getElem?_eq_getElem hj, Nat.zero_add]; rfl); obtain ⟨A, c, e⟩ := Kd.R_slice hR; subst e; exact ⟨A, c, hv, hR⟩
def impl_reducedAt.T1 : Bool × List (List Nat × List Nat) := (true, [([], []), ([], []), ([], []), ([0, 1, 2], [0, 1, 2]), ([3], [3]), ([], []), ([5], [5]), ([4, 6], [4, 6]), ([7, 3, 0, 1, 2, 3, 4, 5, 6, 7], [7])])
def impl_reducedAt.B1 : List Nat := [0, 0, 0, 7, 15, 0, 32, 127, 255]
theorem impl_reducedAt.tab1 : rtab .any (opsOf Try.f88 1) = impl_reducedAt.T1 := by kernel_rfl
theorem impl_reducedAt.bits1 : waitsOk impl_reducedAt.T1.2 impl_reducedAt.B1 = true := by kernel_rfl
theorem impl_reducedAt.clo (k : Nat) (a0 q : Int) (es : List S57) (A0 : Option Addr) (c0 bg bq : Nat) (w : World) (hE : Kd.C k57 w A0 es.length es) (hc0 : es.length ≤ c0) (hg : w.heap[bg]? = some (.cells #[.int .i64 a0, .slice A0 es.length c0] 25 (0, 0))) (hq : w.heap[bq]? = some (.cells #[.int .i64 q] 3 (0, 0))) (Ax : Option Addr) (cx : Nat) (x r : List Int) (hx : Kd.C (Kd.int .i64) w Ax x.length x) (hcx : x.length ≤ cx) (h : impl_burn.f k a0 es x q = some r) :
  Calls Try.prog 88 #[.slice Ax x.length cx, .pointer (some ⟨bg, 0, none⟩), .pointer (some ⟨bq, 0, none⟩)] w fun e w' => e = .returned (.bool (impl_reducedAt.pr k a0 es q x)) ∧ Below w.heap.size w w' := by
 have hu25 := Try.underlying25; (have hpr : impl_reducedAt.pr k a0 es q x = decide ((r.length : Int) < a0) := by unfold impl_reducedAt.pr; rw [h]); rw [hpr]; have HE := Aside0.mk hE; have HC := Aside0.mk hc0; have HG := Aside0.mk hg; have HQ := Aside0.mk hq; have HX := Aside0.mk hx; have HCX := Aside0.mk hcx; have HH := Aside0.mk h; clear hE hc0 hg hq hx hcx h hpr; go_enter Try.func88, Try.ntmps88; (try go_wp2); refine start_ (n := 9) (S := fun w' => w'.cell? ⟨bg, 0, none⟩ = some (.int .i64 a0) ∧ w'.cell? ⟨bg, 1, none⟩ = some (.slice A0 es.length c0) ∧ w'.cell? ⟨bq, 0, none⟩ = some (.int .i64 q)) (ds := []) (zM 9 0) (by kernel_rfl) rfl rfl ⟨(blk_cell HG.out 0).trans rfl, (blk_cell HG.out 1).trans rfl, (blk_cell HQ.out 0).trans rfl⟩ (fun hHeld => ?_); refine with_tabW impl_reducedAt.tab1 impl_reducedAt.bits1 (fun HT_ HW_ => ?_); have HB1 := Aside0.mk (below_drew (Below.refl w.heap.size w)); have HG1 := Aside0.mk (blk_below HG.out HB1.out); have BJ := Aside0.mk (blk_below HQ.out HB1.out); have HE1 := Aside0.mk (Kd.C_below HE.out HB1.out); have HX1 := Aside0.mk (Kd.C_below HX.out HB1.out); generalize w.drew = wd at HB1 HG1 BJ HE1 HX1 hHeld ⊢; refine zQ 1 6 (zM 9 2) ?_
 refine zQ 5 10 (zM 9 34) ?_
 refine take_ (i := 0) (N := some 5) (v := ?_) (a' := ?_) (zM 9 35) rfl rfl (take_ofW HT_.out HW_.out (by kernel_rfl)) (fun _ _ _ h => h) (Or.inl ⟨by rfl, ?_⟩) hHeld ?_ ?_; rotate_left
 ·rintro w' ⟨s0, s1, s2⟩; exact zzT
 rotate_left
 ·exact zzS
 refine take_ (i := 2) (N := some 7) (v := ?_) (a' := ?_) (zM 9 39) rfl rfl (take_ofW HT_.out HW_.out (by kernel_rfl)) (fun _ _ _ h => h) (Or.inl ⟨by rfl, ?_⟩) hHeld ?_ ?_; rotate_left
 ·rintro w' ⟨s0, s1, s2⟩; exact zzT
 rotate_left
 ·exact zzS
 refine take_ (i := 6) (N := some 11) (v := ?_) (a' := ?_) (zM 9 103) rfl rfl (take_ofW HT_.out HW_.out (by kernel_rfl)) (fun _ _ _ h => h) (Or.inl ⟨by rfl, ?_⟩) hHeld ?_ ?_; rotate_left
 ·rintro w' ⟨s0, s1, s2⟩; exact zzT
 rotate_left
 ·exact zzS
 refine one_ (i := 3) (N := some 8) (zM 9 111) rfl rfl (one_of HT_.out (by kernel_rfl)) (by decide) (fun K hK => ?_); refine goes_ Try.func89 (by kernel_rfl) rfl #[.agg #[.int .i64 a0, .slice A0 es.length c0], .slice Ax x.length cx, .int .i64 q] (by rfl) rfl rfl zz22 ?_; refine (impl_burn.calls k a0 _ _ es _ _ x q r _ HE1.out HC.out HX1.out HCX.out HH.out).mono ?_; rintro e w2 ⟨v2, rfl, hR, hb⟩; obtain ⟨Ar, cr, er⟩ := Kd.R_slice hR; subst er; have HB2 := Aside0.mk (below_step HB1.out hb); have HG2 := Aside0.mk (blk_below HG1.out hb); have BU := Aside0.mk (blk_below BJ.out hb); clear hR hb; refine ⟨_, rfl, ?_⟩; refine hK.out _ _ ⟨(blk_cell HG2.out 0).trans rfl, (blk_cell HG2.out 1).trans rfl, (blk_cell BU.out 0).trans rfl⟩ (fun hHeld => ?_); clear hK K; refine norm_ (a' := ?_) ?_ ?_; rotate_left
 ·show Act.put _ (some 8) _ = _; exact zzS
 refine zQ 4 9 (zM 9 127) ?_
 refine zQ 7 12 (zM 9 255) ?_
 refine zQ 8 4 (zM 9 511) ?_
 refine done_ (done_of HT_.out (by kernel_rfl)) ?_; (try go_wp2); go_ret; exact ⟨rfl, HB2.out⟩
theorem impl_reducedAt.idx (k : Nat) (a0 q : Int) (es : List S57) (A0 : Option Addr) (c0 bg bq g cap : Nat) (ok : Nat → Prop) (f : Nat → Nat) (cur : Array Value) (rows : List (List Int)) (w0 w : World) (hE : Kd.C k57 w0 A0 es.length es) (hc0 : es.length ≤ c0) (hI : impl_reducedAt.Ctx a0 q es A0 c0 bg bq g cap ok f cur rows w0 w) (hl : rows.length ≤ 1000000000) (hcap : rows.length ≤ cap) (hP : ∀ x ∈ rows, (impl_burn.f k a0 es x q).isSome = true) :
  Calls Try.prog 122 #[.slice (some ⟨g, 0, none⟩) rows.length cap, .func (.func 88) #[] #[.pointer (some ⟨bg, 0, none⟩), .pointer (some ⟨bq, 0, none⟩)]] w fun e w' => Below w.heap.size w w' ∧ ((e = .returned (.int .i64 (-1)) ∧ ∀ x ∈ rows, impl_reducedAt.pr k a0 es q x = false) ∨ ∃ i : Nat, e = .returned (.int .i64 (i : Int)) ∧ i < rows.length ∧ (∀ j, (h : j < rows.length) → j < i → impl_reducedAt.pr k a0 es q rows[j] = false) ∧ ∀ h : i < rows.length, impl_reducedAt.pr k a0 es q rows[i] = true) := by
 have HE := Aside0.mk hE; have HC := Aside0.mk hc0; have HI := Aside0.mk hI; have HL := Aside0.mk hl; have HCAP := Aside0.mk hcap; have HP := Aside0.mk hP; clear hE hc0 hI hl hcap hP; go_enter Try.func122, Try.ntmps122; go_wp2; (go_loopw [8] (fun v8 wr => ∃ i : Nat, v8 = .int .i64 (i : Int) ∧ Aside0 (i ≤ rows.length) ∧ Aside0 (impl_reducedAt.Ctx a0 q es A0 c0 bg bq g cap ok f cur rows w0 wr) ∧ Aside0 (Below w.heap.size w wr) ∧ Aside0 (∀ j, (h : j < rows.length) → j < i → impl_reducedAt.pr k a0 es q rows[j] = false)) (fun v _ => rows.length - (intOf v).toNat)); case atStart => exact ⟨0, rfl, ⟨Nat.zero_le _⟩, HI, ⟨Below.refl _ _⟩, ⟨fun j _ h => absurd h (by omega)⟩⟩
 case round =>
  obtain ⟨i, rfl, HIL, HIr, HBr, HF⟩ := hrel; by_cases hlt : i < rows.length; rotate_left
  ·have d0 : decide ((i : Int) < (rows.length : Int)) = false := decide_eq_false (by omega); have d1 : decide (i < rows.length) = false := decide_eq_false hlt; (have hi : i = rows.length := by have := HIL.out; omega); clear hlt; go_wp2; go_ret; refine ⟨HBr.out, Or.inl ⟨rfl, fun x hx => ?_⟩⟩; obtain ⟨j, hj, rfl⟩ := List.getElem_of_mem hx; exact HF.out j hj (by omega)
  have d0 : decide ((i : Int) < (rows.length : Int)) = true := decide_eq_true (by omega); have d1 : decide (i < rows.length) = true := decide_eq_true hlt; (have p1 : (0 : Int) ≤ (i : Int) := by omega); (have p2 : (i : Int) < (rows.length : Int) := by omega); (have hib : (i : Int) ≤ 1000000000 := by have := HL.out; omega); obtain ⟨Ai, ci, hcur, hRi⟩ := HIr.out.row hlt; have hcell : wr.cell? ⟨g, i, none⟩ = some (.slice Ai rows[i].length ci) := (blk_cell HIr.out.hc i).trans hcur; obtain ⟨r, hr⟩ := Option.isSome_iff_exists.1 (HP.out _ (List.getElem_mem hlt)); have HRR := Aside0.mk hr; have HRi := Aside0.mk (Kd.R_reads' hRi); have HLT := Aside0.mk hlt; clear hcur hRi hr; generalize hx : rows[i]'HLT.out = x at hcell HRR HRi; have HXX := Aside0.mk hx; clear hx hlt; (go_wp2_with fail); refine (impl_reducedAt.clo k a0 q es A0 c0 bg bq _ (Kd.C_below HE.out HIr.out.hb) HC.out HIr.out.hg HIr.out.hq _ _ x r HRi.out.2.2 HRi.out.2.1 HRR.out).mono ?_; rintro e w1 ⟨rfl, hb⟩; have HI1 := Aside0.mk (HIr.out.step hb); have HB1 := Aside0.mk (below_step HBr.out hb); clear hb hcell
  cases hp : impl_reducedAt.pr k a0 es q x with
  | true =>
   go_wp2; go_ret; exact ⟨HB1.out, Or.inr ⟨i, rfl, HLT.out, HF.out, fun h => by rw [HXX.out]; exact hp⟩⟩
  | false =>
   have HPP := Aside0.mk hp; clear hp; go_wp2; go_roundw
   case rel =>
    refine ⟨i + 1, by go_num, ⟨HLT.out⟩, HI1, HB1, ⟨fun j h hj => ?_⟩⟩; by_cases e : j = i
    ·subst e; rw [HXX.out]; exact HPP.out
    ·exact HF.out j h (by omega)
   case measure =>
    have := HLT.out; (simp [intOf]); omega
theorem impl_reducedAt.cutl {P : Program} (t e : TypeId) {i : TypeInfo} (ht : P.underlying t = some (.slice e)) (hi : P.info? e = some i) (hsz : i.size = 1) (g n c l : Nat) (hl : l ≤ n) (hc : l < c) : ∀ W : World, (Instr.slice t (.slice (some ⟨g, 0, none⟩) n c) (some (.int .i64 (l : Int))) none none).run P W = .ok (.slice (some ⟨g, l, none⟩) (n - l) (c - l)) W := by
 intro W; (have hel : P.elem t = e := by simp [Program.elem, ht]); (have hu : P.underlying t = some (.slice (P.elem t)) := by rw [hel]; exact ht); rw [run_slice_l W t (some ⟨g, 0, none⟩) n c hu .i64 (l : Int) (by omega) (by omega), hel]; (have hne : ¬ (c = l) := by omega); (simp [sizeOf, typeInfo, hi, hsz, sliced, Result.andThen, Addr.add, hne]); omega
theorem impl_reducedAt.cuth {P : Program} (t e : TypeId) {i : TypeInfo} (ht : P.underlying t = some (.slice e)) (hi : P.info? e = some i) (hsz : i.size = 1) (g n c h : Nat) (hc : h ≤ c) : ∀ W : World, (Instr.slice t (.slice (some ⟨g, 0, none⟩) n c) none (some (.int .i64 (h : Int))) none).run P W = .ok (.slice (some ⟨g, 0, none⟩) h c) W := by
 intro W; (have hel : P.elem t = e := by simp [Program.elem, ht]); (have hu : P.underlying t = some (.slice (P.elem t)) := by rw [hel]; exact ht); rw [run_slice_h W t (some ⟨g, 0, none⟩) n c hu .i64 (h : Int) (by omega) (by omega), hel]; simp [sizeOf, typeInfo, hi, hsz, sliced, Result.andThen, Addr.add]
theorem impl_reducedAt.del (k : Nat) (a0 q : Int) (es : List S57) (A0 : Option Addr) (c0 bg bq g cap : Nat) (ok : Nat → Prop) (f : Nat → Nat) (cur : Array Value) (rows : List (List Int)) (w0 w : World) (hE : Kd.C k57 w0 A0 es.length es) (hc0 : es.length ≤ c0) (hI : impl_reducedAt.Ctx a0 q es A0 c0 bg bq g cap ok f cur rows w0 w) (hl : rows.length ≤ 1000000000) (hcap : rows.length ≤ cap) (hP : ∀ x ∈ rows, (impl_burn.f k a0 es x q).isSome = true) (hcs : cur.size = cap) (hcm : cap ≤ maxLen) (hbg : w0.heap.size ≤ g) (hok : ∀ k_, ok k_ → k_ ≠ g) (hne : bg ≠ g ∧ bq ≠ g) :
  Calls Try.prog 87 #[.slice (some ⟨g, 0, none⟩) rows.length cap, .func (.func 88) #[] #[.pointer (some ⟨bg, 0, none⟩), .pointer (some ⟨bq, 0, none⟩)]] w fun e w' => ∃ v : Value, e = .returned v ∧ Kd.S (Kd.slice 3 (Kd.int .i64)) 26 w' w0.heap.size (fun k_ => ok k_ ∨ k_ = g) v (rows.filter fun x => !impl_reducedAt.pr k a0 es q x) ∧ Below w0.heap.size w0 w' := by
 have hidx := impl_reducedAt.idx k a0 q es A0 c0 bg bq g cap ok f cur rows w0 w hE hc0 hI hl hcap hP; have HE := Aside0.mk hE; have HC := Aside0.mk hc0; have HI := Aside0.mk hI; have HL := Aside0.mk hl; have HCAP := Aside0.mk (show rows.length ≤ cap ∧ cur.size = cap ∧ cap ≤ maxLen from ⟨hcap, hcs, hcm⟩); have HP := Aside0.mk hP; have HBG := Aside0.mk hbg; have HOK := Aside0.mk hok; have HNE := Aside0.mk hne; have HIDX := Aside0.mk hidx; (have hnb : (rows.length : Int) ≤ 1000000000 := by omega); clear hE hc0 hI hl hcap hP hcs hcm hbg hok hne hidx; go_enter Try.func87, Try.ntmps87; (go_wp2_with fail); refine HIDX.out.mono ?_; rintro e w1 ⟨hb, hcase⟩; have HI1 := Aside0.mk (HI.out.step hb); clear hb HIDX; rcases hcase with ⟨rfl, hall⟩ | ⟨i0, rfl, hi0, hbef, hat⟩
 ·have HALL := Aside0.mk hall; clear hall; go_wp2; go_ret; (have ef : (rows.filter fun x => !impl_reducedAt.pr k a0 es q x) = rows := List.filter_eq_self.2 fun x hx => by rw [HALL.out x hx]; rfl); rw [ef]; refine ⟨_, rfl, Kd.S_mono (Cf.heads_S (ok := fun k_ => ok k_ ∨ k_ = g) (f := f) HBG.out (Or.inr rfl) HCAP.out.1 HCAP.out.2.2 HCAP.out.2.1 HI1.out.hc ?_) (fun k_ h => h), HI1.out.hb⟩; intro j x i hj; obtain ⟨v, hv, hR⟩ := HI1.out.hH j x i hj; exact ⟨v, hv, Kd.R_mono hR fun k_ h => ⟨Or.inl h.1, h.2⟩⟩
 ·have c0_ : ((i0 : Int) == -1) = false := beq_eq_false_iff_ne.2 (by omega); have c1_ : decide ((i0 : Int) = -1) = false := decide_eq_false (by omega); obtain ⟨jn, ej⟩ : ∃ x : Int, wrap64 ((i0 : Int) + 1) = x := ⟨_, rfl⟩; have ejw : IntKind.i64.wrap ((i0 : Int) + 1) = jn := (i64_w _).trans ej; have HJN := Aside0.mk (show jn = ((i0 + 1 : Nat) : Int) from by rw [← ej]; unfold wrap64; omega); have HI0 := Aside0.mk hi0; have HBEF := Aside0.mk hbef; have HAT := Aside0.mk (hat HI0.out); clear hi0 hbef hat; go_wp2; go_loopw [5, 6, 7] (fun v5 v6 v7 wr => ∃ (i j : Nat) (cr : Array Value), v5 = .int .i64 (i : Int) ∧ v6 = .int .i64 (j : Int) ∧ Aside0 (i < j ∧ j ≤ rows.length ∧ (Cf.keptZ (impl_reducedAt.pr k a0 es q) rows j).length = i) ∧ Aside0 (cr.size = cap ∧ wr.heap[g]? = some (.cells cr 26 (0, 0))) ∧ Aside0 (Cf.Heads wr w0.heap.size ok f cr (Cf.keptZ (impl_reducedAt.pr k a0 es q) rows j)) ∧ Aside0 (∀ t, t < rows.length → j ≤ t → cr[t]? = cur[t]?) ∧ Aside0 (Below w0.heap.size w0 wr ∧ wr.heap[bg]? = some (.cells #[.int .i64 a0, .slice A0 es.length c0] 25 (0, 0)) ∧ wr.heap[bq]? = some (.cells #[.int .i64 q] 3 (0, 0))) ∧ Aside0 (Cf.Heads wr w0.heap.size ok f cur rows.zipIdx)) (fun _ v _ _ => rows.length - (intOf v).toNat)
  case atStart =>
   (have hz : (Cf.keptZ (impl_reducedAt.pr k a0 es q) rows (i0 + 1)) = rows.zipIdx.take i0 := by rw [Cf.keptZ_succ _ HI0.out, if_pos HAT.out, List.append_nil]; exact Cf.keptZ_pre _ rows (Nat.le_of_lt HI0.out) HBEF.out); refine ⟨i0, i0 + 1, cur, rfl, by rw [HJN.out], ⟨by omega, HI0.out, ?_⟩, ⟨HCAP.out.2.1, HI1.out.hc⟩, ⟨?_⟩, ⟨fun t _ _ => rfl⟩, ⟨HI1.out.hb, HI1.out.hg, HI1.out.hq⟩, ⟨HI1.out.hH⟩⟩
   ·rw [hz, List.length_take, List.length_zipIdx]; have := HI0.out; omega
   ·rw [hz]; exact Cf.heads_take HI1.out.hH _
  case round =>
   clear HI1; obtain ⟨i, j, cr, rfl, rfl, HIJ, HCR, HZ, HT, HB, HH⟩ := hrel; (have hij : (i : Int) < (j : Int) := by have := HIJ.out; omega); (have hi0 : (0 : Int) ≤ (i : Int) := by omega); by_cases hlt : j < rows.length; rotate_left
   ·have d0 : decide ((j : Int) < (rows.length : Int)) = false := decide_eq_false (by omega); have d1 : decide (j < rows.length) = false := decide_eq_false hlt; (have hjn : j = rows.length := by have := HIJ.out; omega); (have hin : i < rows.length := by have := HIJ.out; omega); (have hic : i < cap := by have := HCAP.out.1; omega); (have hil : i ≤ cap := by omega); obtain ⟨it, hit, hzt, hszt, hbt⟩ := info_parts info26; have hcutl := impl_reducedAt.cutl (P := Try.prog) 34 26 Try.underlying34 hit hszt g rows.length cap i (Nat.le_of_lt hin) hic; have hcuth := impl_reducedAt.cuth (P := Try.prog) 34 26 Try.underlying34 hit hszt g rows.length cap i hil; (have hcl : ∀ ty, (Builtin.clear_ #[34] ty #[.slice (some ⟨g, i, none⟩) (rows.length - i) (cap - i)]).run Try.prog wr = .ok (.tuple #[]) (wr.setCells g i (List.replicate (rows.length - i) (.slice none 0 0))) := fun ty => Lib.run_clear_slice wr _ _ ty _ Try.underlying34 Try.zeroValue26 rfl rfl g i _ _ (by omega) (fun t ht => by rw [blk_cell HCR.out.2, Array.getElem?_eq_getElem (show i + t < cr.size by have := HCR.out.1; have := HCAP.out.1; omega)]; rfl) (fun t ht => blk_frozen HCR.out.2 _)); have HJ := Aside0.mk hjn; have HIN := Aside0.mk hin; clear hlt hit hzt hszt hbt hjn; go_wp2; go_ret; obtain ⟨cu2, hc2, hs2, ht2⟩ := setCells_row (List.replicate (rows.length - i) (Value.slice none 0 0)) i wr cr HCR.out.2 (by rw [List.length_replicate]; have := HCR.out.1; have := HCAP.out.1; have := HIN.out; omega); (have hfar : ∀ k_, k_ ≠ g → (wr.setCells g i (List.replicate (rows.length - i) (Value.slice none 0 0))).heap[k_]? = wr.heap[k_]? := fun k_ hk => setCells_far _ i k_ hk); obtain ⟨s1, s2, s3, s4⟩ := setCells_same g (List.replicate (rows.length - i) (Value.slice none 0 0)) i wr; (have hlen : (rows.filter fun x => !impl_reducedAt.pr k a0 es q x).length = i := by rw [← Cf.keptZ_all, List.length_map, ← HJ.out]; exact HIJ.out.2.2); have hZ := HZ.out; rw [HJ.out] at hZ; have hK := Cf.kept_S (w := wr.setCells g i (List.replicate (rows.length - i) (Value.slice none 0 0))) (base := w0.heap.size) (g := g) (cap := cap) (ok := fun k_ => ok k_ ∨ k_ = g) (f := f) (cur := cu2) (rows := rows) (p := impl_reducedAt.pr k a0 es q) HBG.out (Or.inr rfl) HCAP.out.1 HCAP.out.2.2 (hs2.trans HCR.out.1) hc2 ?hh
    case hh =>
     have hcells : ∀ t, t < (Cf.keptZ (impl_reducedAt.pr k a0 es q) rows rows.length).length → cu2[t]? = cr[t]? := by
      intro t ht; (have hti : t < i := by have h_ := HIJ.out.2.2; rw [HJ.out] at h_; omega); rw [← Array.getElem?_toList, ← Array.getElem?_toList, ht2, List.append_assoc, List.getElem?_append_left (by rw [List.length_take, Array.length_toList]; have := HCR.out.1; have := HCAP.out.1; have := HIN.out; omega), List.getElem?_take, if_pos hti]
     have h1 := Cf.heads_cells hZ hcells; (have h2 := Cf.heads_step (w1 := wr.setCells g i (List.replicate (rows.length - i) (Value.slice none 0 0))) h1 fun k_ h _ => hfar k_ (HOK.out k_ h)); intro t x u ht; obtain ⟨v, hv, hR⟩ := h2 t x u ht; exact ⟨v, hv, Kd.R_mono hR fun k_ h => ⟨Or.inl h.1, h.2⟩⟩
    rw [hlen] at hK; refine ⟨_, rfl, hK, ⟨s1.trans HB.out.1.os, s2.trans HB.out.1.tape, s3.trans HB.out.1.output, by rw [s4]; exact HB.out.1.size, fun k_ hk => (hfar k_ (by have := HBG.out; omega)).trans (HB.out.1.block k_ hk)⟩⟩
   have d0 : decide ((j : Int) < (rows.length : Int)) = true := decide_eq_true (by omega); have d1 : decide (j < rows.length) = true := decide_eq_true hlt; (have p1 : (0 : Int) ≤ (j : Int) := by omega); (have p2 : (j : Int) < (rows.length : Int) := by omega); (have p3 : (i : Int) < (rows.length : Int) := by omega); obtain ⟨v, hv, hR⟩ := HH.out j rows[j] j (by rw [List.getElem?_zipIdx, List.getElem?_eq_getElem hlt, Nat.zero_add]; rfl); obtain ⟨Ai, ci, ei⟩ := Kd.R_slice hR; subst ei; have hcell : wr.cell? ⟨g, j, none⟩ = some (.slice Ai rows[j].length ci) := (blk_cell HCR.out.2 j).trans ((HT.out j hlt (Nat.le_refl _)).trans hv); obtain ⟨r, hr⟩ := Option.isSome_iff_exists.1 (HP.out _ (List.getElem_mem hlt)); have HRR := Aside0.mk hr; have HRi := Aside0.mk (Kd.R_reads' hR); have HRX := Aside0.mk hR; have HLT := Aside0.mk hlt; clear hv hR hr; generalize hx : rows[j]'HLT.out = x at hcell HRR HRi HRX; have HXX := Aside0.mk hx; clear hx hlt; (go_wp2_with fail); refine (impl_reducedAt.clo k a0 q es A0 c0 bg bq _ (Kd.C_below HE.out HB.out.1) HC.out HB.out.2.1 HB.out.2.2 _ _ x r HRi.out.2.2 HRi.out.2.1 HRR.out).mono ?_; rintro e w2 ⟨rfl, hb⟩; have HCR2 := Aside0.mk (show cr.size = cap ∧ w2.heap[g]? = some (.cells cr 26 (0, 0)) from ⟨HCR.out.1, blk_below HCR.out.2 hb⟩); have HZ2 := Aside0.mk (Cf.heads_step HZ.out fun k_ _ hlt => hb.block k_ hlt); have HH2 := Aside0.mk (Cf.heads_step HH.out fun k_ _ hlt => hb.block k_ hlt); have HB2 := Aside0.mk (show Below w0.heap.size w0 w2 ∧ w2.heap[bg]? = some (.cells #[.int .i64 a0, .slice A0 es.length c0] 25 (0, 0)) ∧ w2.heap[bq]? = some (.cells #[.int .i64 q] 3 (0, 0)) from ⟨below_step HB.out.1 hb, blk_below HB.out.2.1 hb, blk_below HB.out.2.2 hb⟩); have HRX2 := Aside0.mk (Kd.R_below HRX.out hb); clear hb hcell HCR HZ HH HB HRX
   cases hp : impl_reducedAt.pr k a0 es q x with
   | true =>
    have HPP := Aside0.mk hp; clear hp; go_wp2; go_roundw
    case rel =>
     (have hz : (Cf.keptZ (impl_reducedAt.pr k a0 es q) rows (j + 1)) = (Cf.keptZ (impl_reducedAt.pr k a0 es q) rows j) := by rw [Cf.keptZ_succ _ HLT.out, HXX.out, if_pos HPP.out, List.append_nil]); refine ⟨i, j + 1, cr, rfl, by go_num, ⟨by have := HIJ.out; omega, HLT.out, by rw [hz]; exact HIJ.out.2.2⟩, HCR2, ⟨by rw [hz]; exact HZ2.out⟩, ⟨fun t h1 h2 => HT.out t h1 (by omega)⟩, HB2, HH2⟩
    case measure =>
     have := HLT.out; (simp [intOf]); omega
   | false =>
    have HPP := Aside0.mk hp; clear hp; obtain ⟨old, hold⟩ : ∃ old, cr[i]? = some old := ⟨_, Array.getElem?_eq_getElem (show i < cr.size by have := HIJ.out; have := HCR2.out.1; have := HCAP.out.1; omega)⟩; have hzi : w2.cell? ⟨g, i, none⟩ = some old := (blk_cell HCR2.out.2 i).trans hold; have hfz := blk_frozen HCR2.out.2 i; clear hold; go_wp2; go_roundw
    case rel =>
     clear hzi hfz; (have hz : (Cf.keptZ (impl_reducedAt.pr k a0 es q) rows (j + 1)) = (Cf.keptZ (impl_reducedAt.pr k a0 es q) rows j) ++ [(x, j)] := by rw [Cf.keptZ_succ _ HLT.out, HXX.out, if_neg (by rw [HPP.out]; simp)]); (have hset : ∀ k_, ok k_ → k_ < w2.heap.size → (w2.setCell ⟨g, i, none⟩ (.slice Ai x.length ci)).heap[k_]? = w2.heap[k_]? := fun k_ h _ => Below.heap_setCell w2 _ _ k_ (HOK.out k_ h)); refine ⟨i + 1, j + 1, cr.setIfInBounds i (.slice Ai x.length ci), by go_num, by go_num, ⟨by have := HIJ.out; omega, HLT.out, by rw [hz, List.length_append, HIJ.out.2.2]; rfl⟩, ⟨by rw [Array.size_setIfInBounds]; exact HCR2.out.1, blk_set HCR2.out.2 i _⟩, ⟨?_⟩, ⟨fun t h1 h2 => ?_⟩, ⟨below_set HB2.out.1 HBG.out, blk_far HB2.out.2.1 HNE.out.1 _, blk_far HB2.out.2.2 HNE.out.2 _⟩, ⟨Cf.heads_step HH2.out hset⟩⟩
     ·rw [hz]; have h1 := Cf.heads_push HZ2.out (v := .slice Ai x.length ci) (x := x) (t := j) (by have := HIJ.out; have := HCR2.out.1; have := HCAP.out.1; omega) HRX2.out; rw [HIJ.out.2.2] at h1; exact Cf.heads_step h1 hset
     ·rw [Array.getElem?_setIfInBounds_ne (by have := HIJ.out; omega)]; exact HT.out t h1 (by omega)
    case measure =>
     have := HLT.out; (simp [intOf]); omega
def impl_reducedAt.cnt (k : Nat) (a0 : Int) (es : List S57) (q : Int) (v : Nat) : Nat := if (v : Int) = q then 1 else ((impl_Valence.f k a0 es (v : Int)).getD 0).toNat
abbrev impl_reducedAt.ok0 (k : Nat) (a0 : Int) (es : List S57) (q : Int) : Prop := (0 ≤ a0 ∧ a0 ≤ 6) ∧ ∀ v, v < a0.toNat → (impl_Valence.f k a0 es (v : Int)).isSome = true ∧ 0 ≤ (impl_Valence.f k a0 es (v : Int)).getD 0 ∧ (impl_Valence.f k a0 es (v : Int)).getD 0 ≤ 24
abbrev impl_reducedAt.ok1 (k : Nat) (a0 : Int) (es : List S57) (q : Int) : Prop := ∀ x ∈ Cf.boxL (impl_reducedAt.cnt k a0 es q) a0.toNat, (impl_burn.f k a0 es x q).isSome = true
def impl_reducedAt.f (k : Nat) (a0 : Int) (es : List S57) (q : Int) : Option (List (List Int)) := if impl_reducedAt.ok0 k a0 es q ∧ impl_reducedAt.ok1 k a0 es q ∧ 0 < (Cf.boxL (impl_reducedAt.cnt k a0 es q) a0.toNat).length then some ((Cf.boxL (impl_reducedAt.cnt k a0 es q) a0.toNat).filter fun x => !impl_reducedAt.pr k a0 es q x) else none
theorem impl_reducedAt.val_up (k : Nat) {a0 : Int} {es : List S57} {v : Int} (h : (impl_Valence.f k a0 es v).isSome = true) : impl_Valence.f (k + 1) a0 es v = impl_Valence.f k a0 es v := by
 obtain ⟨b, hb⟩ := Option.isSome_iff_exists.1 h; rw [hb, impl_Valence.mono _ _ _ k _ hb]
theorem impl_reducedAt.burn_up (k : Nat) {a0 q : Int} {es : List S57} {x : List Int} (h : (impl_burn.f k a0 es x q).isSome = true) : impl_burn.f (k + 1) a0 es x q = impl_burn.f k a0 es x q := by
 obtain ⟨b, hb⟩ := Option.isSome_iff_exists.1 h; rw [hb, impl_burn.mono _ _ _ _ k _ hb]
theorem impl_reducedAt.box_congr {c d : Nat → Nat} : ∀ {n : Nat}, (∀ v, v < n → c v = d v) → Cf.boxL c n = Cf.boxL d n
 | 0, _ => rfl
 | n + 1, h => by rw [Cf.boxL, Cf.boxL, impl_reducedAt.box_congr fun v hv => h v (by omega), h n (by omega)]
theorem impl_reducedAt.mono : ∀ a0 a1 a2 k, LeO (impl_reducedAt.f k a0 a1 a2) (impl_reducedAt.f (k + 1) a0 a1 a2) := by
 intro a0 es q k r h; unfold impl_reducedAt.f at h ⊢; (split at h); (case isFalse => cases h); rename_i hc; (have e1 : Cf.boxL (impl_reducedAt.cnt (k + 1) a0 es q) a0.toNat = Cf.boxL (impl_reducedAt.cnt k a0 es q) a0.toNat := impl_reducedAt.box_congr fun v hv => by unfold impl_reducedAt.cnt; rw [impl_reducedAt.val_up k (hc.1.2 v hv).1]); have h0 : impl_reducedAt.ok0 (k + 1) a0 es q := ⟨hc.1.1, fun v hv => by rw [impl_reducedAt.val_up k (hc.1.2 v hv).1]; exact hc.1.2 v hv⟩; (have h1 : impl_reducedAt.ok1 (k + 1) a0 es q := by unfold impl_reducedAt.ok1; rw [e1]; exact fun x hx => by rw [impl_reducedAt.burn_up k (hc.2.1 x hx)]; exact hc.2.1 x hx); rw [if_pos ⟨h0, h1, by rw [e1]; exact hc.2.2⟩, ← h, e1]; (congr 1); (refine List.filter_congr fun x hx => ?_); unfold impl_reducedAt.pr; rw [impl_reducedAt.burn_up k (hc.2.1 x hx)]
theorem impl_reducedAt.calls (k : Nat) (aD : Int) (aH : Option Addr) (aG : Nat) (aC : List S57) (a1 : Int) (r : List (List Int)) (w : World) (hr0_1 : Kd.C k57 w aH aC.length aC) (hc0_1 : aC.length ≤ aG) (h : impl_reducedAt.f k aD aC a1 = some r) :
  Calls Try.prog 49 #[.agg #[.int .i64 aD, .slice aH aC.length aG], .int .i64 a1] w fun e w' => ∃ v0_ : Value, e = .returned (v0_) ∧ Kd.S (Kd.slice 3 (Kd.int .i64)) 26 w' w.heap.size (fun _ => True) v0_ r ∧ Below w.heap.size w w' := by
 have hu25 := Try.underlying25; have HE := zK_ hr0_1; have HC := zK_ hc0_1; clear hr0_1 hc0_1; unfold impl_reducedAt.f at h; (split at h); (case isFalse => cases h); rename_i hc; obtain rfl := Option.some.inj h; clear h; obtain ⟨⟨⟨hn0, hn6⟩, hv⟩, hbn, hpos⟩ := hc; obtain ⟨n, rfl⟩ := Int.eq_ofNat_of_zero_le hn0; unfold impl_reducedAt.ok1 at hbn; rw [Int.toNat_natCast] at hv hbn hpos ⊢; have HPOS := zK_ hpos; clear hpos; have HV := zK_ hv; have HBN := zK_ hbn; have HN := zK_ (show n ≤ 6 from by omega); (have hcb : ∀ u, u < n → impl_reducedAt.cnt k (n : Int) aC a1 u ≤ 24 := fun u hu => by unfold impl_reducedAt.cnt; split; omega; have := (hv u hu).2.2; omega); (have hln : ∀ v, v ≤ n → (Cf.boxL (impl_reducedAt.cnt k (n : Int) aC a1) v).length ≤ 191102976 := fun v hv => Nat.le_trans (Cf.boxL_len (b := 24) fun u hu => hcb u (by omega)) (Nat.pow_le_pow_right (by omega) (show v ≤ 6 by omega))); (have hrow : ∀ v x, x ∈ Cf.boxL (impl_reducedAt.cnt k (n : Int) aC a1) v → x.length = v := fun v x hx => (Cf.boxL_row hx).1); have HCB := zK_ hcb; have HLN := zK_ hln; have HROW := zK_ hrow; (have hmf : ∀ (fn : Fn) (first cap : Array Value) (w : World), (Instr.makeFunc fn first cap).run Try.prog w = .ok (.func fn first cap) w := fun _ _ _ _ => rfl); have hnb : (n : Int) ≤ 6 := hn6; clear hn0 hn6 hv hbn hcb hln hrow; go_enter Try.func49, Try.ntmps49; (go_wp2_with (first | ((with_reducible refine gate_dst (N := 2) rfl ?_); refine box_event ?hg (N := 2) ?hd (cs := #[.int .i64 (n : Int), .slice aH aC.length aG]) (t := 25) ?hr ?_; (case hd => rfl); (case hg => rfl); (case hr => exact zz9); intro bg hg w1 hbox hb; have BG1 := zK_ hbox; have HGG := zK_ hg; have HB1 := zK_ hb; clear hg hbox hb) | ((with_reducible refine gate_dst (N := 3) rfl ?_); refine box_event ?hg (N := 3) ?hd (cs := #[.int .i64 a1]) (t := 3) ?hr ?_; (case hd => rfl); (case hg => rfl); (case hr => exact zz9); intro bq hg w2 hbox hb; have BQ2 := zK_ hbox; have HQG := zK_ hg; have BG2 := zK_ (blk_below BG1.out hb); have HB2 := zK_ (below_step HB1.out hb); clear hg hbox hb) | ((with_reducible refine gate_dst (N := 12) rfl ?_); refine Kd.S_lits (w0 := w2) (Kd.slice 3 (Kd.int .i64)) w2.heap.size 26 ?hg (N := 12) ?hd (xs := ([[]] : List (List Int))) (inner := [.slice none 0 0]) (ok := fun _ => True) (fun j k => j = 0) ?hr rfl ?hp (fun i j k hi hj => hi.trans hj.symm) (fun _ _ _ => trivial) trivial (Below.refl _ _) (Nat.le_refl _) (by simp) ?_; (case hd => rfl); (case hg => rfl); (case hr => exact zz9); (case hp => exact fun j x hx => match j, hx with | 0, rfl => Kd.M_row (Kd.R_nil _ _ _ _ _) | _ + 1, h_ => absurd h_ (by simp)); intro v12 w3 ho hb hg_ hnew_; have HS3 := zK_ ho; have HB3 := zK_ hb; clear ho hb hg_ hnew_))); have HBOX := zK_ (show bg < w2.heap.size ∧ bq < w2.heap.size from ⟨blk_lt BG2.out, blk_lt BQ2.out⟩); (go_loopw [5, 6] (fun v5 v6 wr => ∃ v : Nat, v6 = .int .i64 (v : Int) ∧ Aside0 (v ≤ n) ∧ Aside0 (Below w2.heap.size w2 wr) ∧ Aside0 (Kd.S (Kd.slice 3 (Kd.int .i64)) 26 wr w2.heap.size (fun _ => True) v5 (Cf.boxL (impl_reducedAt.cnt k (n : Int) aC a1) v))) (fun _ v _ => n - (intOf v).toNat)); case atStart => exact ⟨0, rfl, ⟨Nat.zero_le _⟩, HB3, HS3⟩
 case round =>
  clear HS3 HB3; obtain ⟨v, rfl, HVN, HBr, HSr⟩ := hrel; have hz0 : wr.cell? ⟨bg, 0, none⟩ = some (.int .i64 (n : Int)) := (blk_cell (blk_below BG2.out HBr.out) 0).trans rfl; have hz1 : wr.cell? ⟨bg, 1, none⟩ = some (.slice aH aC.length aG) := (blk_cell (blk_below BG2.out HBr.out) 1).trans rfl; (have hvb : (v : Int) ≤ 6 := by have := HVN.out; omega); by_cases hvn : v < n; rotate_left
  ·have c0_ : decide ((v : Int) < (n : Int)) = false := decide_eq_false (by omega); have c1_ : decide (v < n) = false := decide_eq_false hvn; (have hv : v = n := by have := HVN.out; omega); subst hv; clear hvn; obtain ⟨g, cap, eg, _⟩ := Kd.S_form HSr.out HPOS.out; subst eg; obtain ⟨f, cur, hbg, _, _, hncap, hcm, hcs, hc, hH⟩ := Cf.S_heads HSr.out; have hdel := impl_reducedAt.del k (v : Int) a1 aC aH aG bg bq g cap _ f cur _ w2 wr (Kd.C_below HE.out HB2.out) HC.out ⟨HBr.out, blk_below BG2.out HBr.out, blk_below BQ2.out HBr.out, hc, hH⟩ (Nat.le_trans (HLN.out v (Nat.le_refl _)) (by omega)) hncap HBN.out hcs hcm hbg (fun k_ h => h.2) ⟨by have := HBOX.out; omega, by have := HBOX.out; omega⟩; have HDEL := zK_ hdel; clear hdel hH hc hcs hcm hncap hbg; (go_wp2_with fail); refine HDEL.out.mono ?_; rintro e w9 ⟨v9, rfl, hS, hb⟩; obtain ⟨A9, c9, e9⟩ := Kd.S_slice hS; subst e9; have HS9 := zK_ hS; have HB9 := zK_ hb; clear hS hb hz0 hz1; go_wp2; go_ret; exact ⟨_, rfl, Kd.S_mono (Kd.S_lower HS9.out HB2.out.size) (fun _ _ => trivial), below_step HB2.out HB9.out⟩
  have c0_ : decide ((v : Int) < (n : Int)) = true := decide_eq_true (by omega); have c1_ : decide (v < n) = true := decide_eq_true hvn; obtain ⟨L, hL⟩ : ∃ L, Cf.boxL (impl_reducedAt.cnt k (n : Int) aC a1) v = L := ⟨_, rfl⟩; obtain ⟨A5, c5, e5⟩ := Kd.S_slice HSr.out; subst e5; have hS := HSr.out; rw [hL] at hS; have HLn := zK_ (show L.length ≤ 191102976 from by rw [← hL]; exact HLN.out v (by omega)); have HLR := zK_ (show ∀ x ∈ L, x.length = v from fun x hx => HROW.out v x (by rw [hL]; exact hx)); have HS := zK_ hS; have HLL := zK_ hL; rw [hL]; clear hS HSr; obtain ⟨hm0, hm1, hm2⟩ := HV.out v hvn; obtain ⟨m, hm⟩ := Option.isSome_iff_exists.1 hm0; rw [hm] at hm1 hm2; simp only [Option.getD_some] at hm1 hm2; have HM := zK_ hm; (have hcn : impl_reducedAt.cnt k (n : Int) aC a1 v = if (v : Int) = a1 then 1 else m.toNat := by unfold impl_reducedAt.cnt; rw [hm]; rfl); obtain ⟨m1, em⟩ : ∃ x : Int, wrap64 (m - 1) = x := ⟨_, rfl⟩; have emw : IntKind.i64.wrap (m - 1) = m1 := (i64_w _).trans em; have HM1 := zK_ (show m1 = m - 1 ∧ 0 ≤ m ∧ m ≤ 24 from ⟨by rw [← em]; unfold wrap64; omega, hm1, hm2⟩); have HVLT := zK_ hvn; clear hm hm0 hm1 hm2 hL hvn; (go_wp2_with fail); refine (impl_Valence.calls k (n : Int) _ _ aC (v : Int) m _ (Kd.C_below (Kd.C_below HE.out HB2.out) HBr.out) HC.out HM.out).mono ?_; rintro e w5 ⟨rfl, hb⟩; have HB5 := zK_ (below_step HBr.out hb); have HS5 := zK_ (Kd.S_mono (Kd.S_bound (Kd.S_below HS.out hb)) (ok' := fun k_ => k_ < w5.heap.size) fun k_ hk => hk.2.2.1); clear hb hz0 hz1 HS HBr; have hq0 : w5.cell? ⟨bq, 0, none⟩ = some (.int .i64 a1) := (blk_cell (blk_below BQ2.out HB5.out) 0).trans rfl; by_cases hvq : (v : Int) = a1
  ·have c4_ : ((v : Int) == a1) = true := beq_iff_eq.2 hvq; have hcn2 : impl_reducedAt.cnt k (n : Int) aC a1 v = impl_reducedAt.cnt k (n : Int) aC a1 v ∧ impl_reducedAt.cnt k (n : Int) aC a1 v = 1 := ⟨rfl, by rw [hcn, if_pos hvq]⟩; have HCN := zK_ (show impl_reducedAt.cnt k (n : Int) aC a1 v = 1 ∧ (1 : Nat) ≤ 24 from ⟨hcn2.2, by omega⟩); clear hcn hcn2 hvq; (try go_wp2); (go_loopw [8, 28] (fun v8 v28 wr => ∃ i : Nat, v28 = .int .i64 (i : Int) ∧ Aside0 (i ≤ L.length ∧ w5.heap.size ≤ wr.heap.size) ∧ Aside0 (Below w2.heap.size w2 wr) ∧ Aside0 (Kd.S (Kd.slice 3 (Kd.int .i64)) 26 wr w2.heap.size (fun k_ => k_ < w5.heap.size) (.slice A5 L.length c5) L) ∧ Aside0 (Kd.S (Kd.slice 3 (Kd.int .i64)) 26 wr w2.heap.size (fun k_ => w5.heap.size ≤ k_) v8 (Cf.outB 1 L i))) (fun _ v _ => L.length - (intOf v).toNat)); case atStart => exact ⟨0, rfl, ⟨Nat.zero_le _, Nat.le_refl _⟩, HB5, HS5, ⟨Kd.S_nil _ _ _ _ _⟩⟩
   case round =>
    clear HS5 hq0; obtain ⟨i, rfl, HI, HBr, HLr, HSn⟩ := hrel; by_cases hlt : i < L.length; rotate_left
    ·have c2_ : decide ((i : Int) < (L.length : Int)) = false := decide_eq_false (by omega); have c3_ : decide (i < L.length) = false := decide_eq_false hlt; (have hi : i = L.length := by have := HI.out; omega); subst hi; clear hlt; go_wp2; go_roundw
     case rel =>
      refine ⟨v + 1, by go_num, ⟨HVLT.out⟩, HBr, ⟨?_⟩⟩; have h1 := Cf.outB_all (impl_reducedAt.cnt k (n : Int) aC a1) v; rw [HLL.out, HCN.out.1] at h1; rw [← h1]; exact Kd.S_mono HSn.out fun _ _ => trivial
     case measure =>
      have := HVLT.out; (simp [intOf]); omega
    have c2_ : decide ((i : Int) < (L.length : Int)) = true := decide_eq_true (by omega); have c3_ : decide (i < L.length) = true := decide_eq_true hlt; obtain ⟨x, hxi⟩ : ∃ x, L[i]? = some x := ⟨_, List.getElem?_eq_getElem hlt⟩; (have hx : rd_L3 L (i : Int) = x := by unfold rd_L3; rw [Int.toNat_natCast, List.getD_eq_getElem?_getD, hxi]; rfl); (have p1 : (0 : Int) ≤ (i : Int) := by omega); (have p2 : (i : Int) < (L.length : Int) := by omega); obtain ⟨gL, _, _, eg, _, _, _⟩ := at_L3 (Kd.S_reads' HLr.out).2.2 (i : Int) p1 p2; subst eg; obtain ⟨cc, _, hM, hcell⟩ := Kd.S_get HLr.out ([] : List Int) (i : Int) p1 p2; obtain ⟨vx, hvx, hRx⟩ := hM; subst hvx; replace hcell := hcell 0 vx rfl; rw [show (L.getD ((i : Int)).toNat []) = x from hx] at hRx; (replace hRx := Kd.R_mono hRx (ok' := fun k_ => k_ < w5.heap.size) fun k_ hk => hk.1); obtain ⟨Ai, ci, ei⟩ := Kd.R_slice hRx; subst ei; rw [Int.toNat_natCast, show i * (Kd.slice 3 (Kd.int .i64)).sz + 0 = i from Nat.mul_one i] at hcell; have HRi := zK_ hRx; clear hRx; (have hib : (i : Int) ≤ 191102976 := by have := HLn.out; omega); have HLT := zK_ hlt; have HXI := zK_ hxi; have HXL := zK_ (show x.length = v from HLR.out x (List.mem_of_getElem? hxi)); (have hxl : (x.length : Int) ≤ 6 := by have := HXL.out; have := HVLT.out; have := HN.out; omega); have CP := zK_ (show impl_copyInts.f x = some x from by unfold impl_copyInts.f; rw [if_pos (by simp only [List.length_nil]; omega)]; rfl); clear hxi hlt hx; (try go_wp2); (go_loopw [8, 11] (fun v8 v11 wi => ∃ j : Nat, v11 = .int .i64 (j : Int) ∧ Aside0 (j ≤ 1 ∧ w5.heap.size ≤ wi.heap.size) ∧ Aside0 (Below w2.heap.size w2 wi) ∧ Aside0 (Kd.S (Kd.slice 3 (Kd.int .i64)) 26 wi w2.heap.size (fun k_ => k_ < w5.heap.size) (.slice (some gL) L.length c5) L) ∧ Aside0 (Kd.S (Kd.slice 3 (Kd.int .i64)) 26 wi w2.heap.size (fun k_ => w5.heap.size ≤ k_) v8 (Cf.outB 1 L i ++ Cf.extB j x)) ∧ Aside0 (Kd.R (Kd.int .i64) 3 wi w2.heap.size (fun k_ => k_ < w5.heap.size) (.slice Ai x.length ci) x)) (fun _ v _ => 1 - (intOf v).toNat)); case atStart => exact ⟨0, rfl, ⟨Nat.zero_le _, HI.out.2⟩, HBr, HLr, ⟨by rw [Cf.extB_zero, List.append_nil]; exact HSn.out⟩, HRi⟩
    case round =>
     obtain ⟨j, rfl, HJ, HBi, HLi, HSi, HRj⟩ := hrel; (have hjb : (j : Int) ≤ 24 := by have := HJ.out; have := HCN.out; omega); by_cases hj : j < 1
     ·(obtain rfl : j = 0 := by omega); have HJN := zK_ hj; clear hj; have HLA := zK_ (show (Cf.outB 1 L i ++ Cf.extB 0 x).length ≤ 5000000000 from by rw [List.length_append, Cf.extB_len]; have a1_ := Cf.outB_len 1 L i; have a2_ := HCN.out; have a3_ := HJ.out; have a4_ := Nat.mul_le_mul HLn.out (show 1 ≤ 24 by omega); omega); (go_wp2_with (first | ((with_reducible refine gate_callee (f := 86) rfl ?_); refine goesL_ (some 39) rfl rfl Try.func86 (by kernel_rfl) rfl #[.slice Ai x.length ci] rfl zz22 ?_; refine (impl_copyInts.calls _ _ x x _ (Kd.R_reads' HRj.out).2.2 (Kd.R_reads' HRj.out).2.1 CP.out).mono ?_; rintro e wA ⟨vA, rfl, hoA, hbA⟩; refine ⟨_, rfl, ?_⟩; have HOA := zK_ hoA; have HBA := zK_ hbA; clear hoA hbA) | ((with_reducible refine gate_builtin (b := .append) (xs := #[.tmp 39, .tmp 41]) rfl ?_); at_builtin; refine Kd.R_append (Kd.int .i64) (w0 := wr) wr.heap.size rfl (.tmp 39) (.tmp 41) 26 3 (.int .i64 0) 8 rfl Try.underlying26 info3 rfl (by decide) (by omega) vA x (0 : Int) [.int .i64 (0 : Int)] (fun _ => True) (fun _ => False) rfl rfl rfl (fun _ hk => hk.elim) (fun _ _ => trivial) HOA.out HBA.out (below_size HBA.out) (by have := hxl; omega) ?_; intro vC wC ho hb hg hat; obtain ⟨Ad, cd, ed⟩ := Kd.R_slice ho; subst ed; rw [show (x ++ [(0 : Int)]).length = x.length + 1 from List.length_append] at ho; have HD := zK_ (Kd.R_mono (Kd.R_bound ho) (ok' := fun k_ => wr.heap.size ≤ k_) fun k_ hk => hk.2.1); have HBC := zK_ hb; clear ho hb hg hat) | ((with_reducible refine gate_builtin (b := .append) (xs := #[.tmp 37, .tmp 43]) rfl ?_); at_builtin; refine Kd.S_append (Kd.slice 3 (Kd.int .i64)) (w0 := w2) w2.heap.size rfl (.tmp 37) (.tmp 43) 34 26 (.slice none 0 0) 24 rfl Try.underlying34 info26 rfl (by decide) (by omega) u8 (Cf.outB 1 L i ++ Cf.extB 0 x) (x ++ [(0 : Int)]) [.slice Ad (x.length + 1) cd] (fun k_ => w5.heap.size ≤ k_) (fun k_ => wr.heap.size ≤ k_) rfl rfl (Kd.M_row (Kd.R_lower HD.out (below_size HBi.out))) (fun k_ hk => ⟨by have := HJ.out; omega, fun e => by have := Kd.S_lt HSi.out k_ e.symm; omega⟩) (fun k_ hk => by have := HJ.out; have := HBC.out.size; omega) (Kd.S_mono (Kd.S_below (Kd.S_bound HSi.out) HBC.out) fun k_ hk => ⟨hk.1, fun h => by have := hk.2.2.1; omega⟩) (below_step HBi.out HBC.out) (below_size (below_step HBi.out HBC.out)) (by have := HLA.out; omega) ?_; intro vE wE ho hb hg hat; have HOE := zK_ ho; have HBE := zK_ hb; have HLE := zK_ (Kd.S_grown (Kd.S_below (Kd.S_bound HLi.out) HBC.out) hg fun k_ hk e => by have := HSi.out.choose_spec.1 k_ e.symm; have := hk.1; omega); have HZE := zK_ hg.size; have HRE := zK_ (Kd.R_step (Kd.R_below HRj.out HBC.out) fun k_ hk hlt => hg.block k_ hlt fun e => by have := HSi.out.choose_spec.1 k_ e.symm; omega); clear ho hb hg hat))); go_roundw
      case rel =>
       refine ⟨0 + 1, by go_num, ⟨by have := HJN.out; omega, by have := HBC.out.size; have := HZE.out; have := HJ.out; omega⟩, HBE, ⟨Kd.S_mono HLE.out fun k_ hk => hk.1⟩, ⟨?_⟩, HRE⟩; rw [Cf.extB_succ, ← List.append_assoc]; exact HOE.out
      case measure =>
       have := HJN.out; first | (simp [intOf]; done) | (simp [intOf]; omega)
     have hj2 := HJ.out; (have hjn : j = 1 := by have := HJ.out; omega); subst hjn; clear hj; go_wp2; go_roundw
     case rel =>
      refine ⟨i + 1, by go_num, ⟨by have := HLT.out; omega, HJ.out.2⟩, HBi, HLi, ⟨?_⟩⟩; rw [Cf.outB_succ _ HXI.out]; exact HSi.out
     case measure =>
      have := HLT.out; (simp [intOf]); omega
  have c4_ : ((v : Int) == a1) = false := beq_eq_false_iff_ne.2 hvq; have hcn2 : impl_reducedAt.cnt k (n : Int) aC a1 v = impl_reducedAt.cnt k (n : Int) aC a1 v ∧ ((impl_reducedAt.cnt k (n : Int) aC a1 v : Nat) : Int) = m1 + 1 ∧ m1 ≤ 23 := ⟨rfl, by rw [hcn, if_neg hvq]; have := HM1.out; omega, by have := HM1.out; omega⟩; have HCN0 := zK_ hcn2; obtain ⟨cn, hcn3⟩ : ∃ cn, impl_reducedAt.cnt k (n : Int) aC a1 v = cn := ⟨_, rfl⟩; have HCN := zK_ (show impl_reducedAt.cnt k (n : Int) aC a1 v = cn ∧ cn ≤ 24 ∧ (cn : Int) = m1 + 1 from ⟨hcn3, by have := HCN0.out.2; omega, by have := HCN0.out.2; omega⟩); clear hcn hcn2 hvq hcn3 HCN0; (try go_wp2); (go_loopw [8, 28] (fun v8 v28 wr => ∃ i : Nat, v28 = .int .i64 (i : Int) ∧ Aside0 (i ≤ L.length ∧ w5.heap.size ≤ wr.heap.size) ∧ Aside0 (Below w2.heap.size w2 wr) ∧ Aside0 (Kd.S (Kd.slice 3 (Kd.int .i64)) 26 wr w2.heap.size (fun k_ => k_ < w5.heap.size) (.slice A5 L.length c5) L) ∧ Aside0 (Kd.S (Kd.slice 3 (Kd.int .i64)) 26 wr w2.heap.size (fun k_ => w5.heap.size ≤ k_) v8 (Cf.outB cn L i))) (fun _ v _ => L.length - (intOf v).toNat)); case atStart => exact ⟨0, rfl, ⟨Nat.zero_le _, Nat.le_refl _⟩, HB5, HS5, ⟨Kd.S_nil _ _ _ _ _⟩⟩
  case round =>
   clear HS5 hq0; obtain ⟨i, rfl, HI, HBr, HLr, HSn⟩ := hrel; by_cases hlt : i < L.length; rotate_left
   ·have c2_ : decide ((i : Int) < (L.length : Int)) = false := decide_eq_false (by omega); have c3_ : decide (i < L.length) = false := decide_eq_false hlt; (have hi : i = L.length := by have := HI.out; omega); subst hi; clear hlt; go_wp2; go_roundw
    case rel =>
     refine ⟨v + 1, by go_num, ⟨HVLT.out⟩, HBr, ⟨?_⟩⟩; have h1 := Cf.outB_all (impl_reducedAt.cnt k (n : Int) aC a1) v; rw [HLL.out, HCN.out.1] at h1; rw [← h1]; exact Kd.S_mono HSn.out fun _ _ => trivial
    case measure =>
     have := HVLT.out; (simp [intOf]); omega
   have c2_ : decide ((i : Int) < (L.length : Int)) = true := decide_eq_true (by omega); have c3_ : decide (i < L.length) = true := decide_eq_true hlt; obtain ⟨x, hxi⟩ : ∃ x, L[i]? = some x := ⟨_, List.getElem?_eq_getElem hlt⟩; (have hx : rd_L3 L (i : Int) = x := by unfold rd_L3; rw [Int.toNat_natCast, List.getD_eq_getElem?_getD, hxi]; rfl); (have p1 : (0 : Int) ≤ (i : Int) := by omega); (have p2 : (i : Int) < (L.length : Int) := by omega); obtain ⟨gL, _, _, eg, _, _, _⟩ := at_L3 (Kd.S_reads' HLr.out).2.2 (i : Int) p1 p2; subst eg; obtain ⟨cc, _, hM, hcell⟩ := Kd.S_get HLr.out ([] : List Int) (i : Int) p1 p2; obtain ⟨vx, hvx, hRx⟩ := hM; subst hvx; replace hcell := hcell 0 vx rfl; rw [show (L.getD ((i : Int)).toNat []) = x from hx] at hRx; (replace hRx := Kd.R_mono hRx (ok' := fun k_ => k_ < w5.heap.size) fun k_ hk => hk.1); obtain ⟨Ai, ci, ei⟩ := Kd.R_slice hRx; subst ei; rw [Int.toNat_natCast, show i * (Kd.slice 3 (Kd.int .i64)).sz + 0 = i from Nat.mul_one i] at hcell; have HRi := zK_ hRx; clear hRx; (have hib : (i : Int) ≤ 191102976 := by have := HLn.out; omega); have HLT := zK_ hlt; have HXI := zK_ hxi; have HXL := zK_ (show x.length = v from HLR.out x (List.mem_of_getElem? hxi)); (have hxl : (x.length : Int) ≤ 6 := by have := HXL.out; have := HVLT.out; have := HN.out; omega); have CP := zK_ (show impl_copyInts.f x = some x from by unfold impl_copyInts.f; rw [if_pos (by simp only [List.length_nil]; omega)]; rfl); clear hxi hlt hx; (try go_wp2); (go_loopw [8, 11] (fun v8 v11 wi => ∃ j : Nat, v11 = .int .i64 (j : Int) ∧ Aside0 (j ≤ cn ∧ w5.heap.size ≤ wi.heap.size) ∧ Aside0 (Below w2.heap.size w2 wi) ∧ Aside0 (Kd.S (Kd.slice 3 (Kd.int .i64)) 26 wi w2.heap.size (fun k_ => k_ < w5.heap.size) (.slice (some gL) L.length c5) L) ∧ Aside0 (Kd.S (Kd.slice 3 (Kd.int .i64)) 26 wi w2.heap.size (fun k_ => w5.heap.size ≤ k_) v8 (Cf.outB cn L i ++ Cf.extB j x)) ∧ Aside0 (Kd.R (Kd.int .i64) 3 wi w2.heap.size (fun k_ => k_ < w5.heap.size) (.slice Ai x.length ci) x)) (fun _ v _ => cn - (intOf v).toNat)); case atStart => exact ⟨0, rfl, ⟨Nat.zero_le _, HI.out.2⟩, HBr, HLr, ⟨by rw [Cf.extB_zero, List.append_nil]; exact HSn.out⟩, HRi⟩
   case round =>
    obtain ⟨j, rfl, HJ, HBi, HLi, HSi, HRj⟩ := hrel; (have hjb : (j : Int) ≤ 24 := by have := HJ.out; have := HCN.out; omega); by_cases hj : j < cn
    ·have d0 : decide ((j : Int) ≤ m1) = true := decide_eq_true (by have := HCN.out; omega); have HJN := zK_ hj; clear hj; have HLA := zK_ (show (Cf.outB cn L i ++ Cf.extB j x).length ≤ 5000000000 from by rw [List.length_append, Cf.extB_len]; have a1_ := Cf.outB_len cn L i; have a2_ := HCN.out; have a3_ := HJ.out; have a4_ := Nat.mul_le_mul HLn.out (show cn ≤ 24 by omega); omega); (go_wp2_with (first | ((with_reducible refine gate_callee (f := 86) rfl ?_); refine goesL_ (some 39) rfl rfl Try.func86 (by kernel_rfl) rfl #[.slice Ai x.length ci] rfl zz22 ?_; refine (impl_copyInts.calls _ _ x x _ (Kd.R_reads' HRj.out).2.2 (Kd.R_reads' HRj.out).2.1 CP.out).mono ?_; rintro e wA ⟨vA, rfl, hoA, hbA⟩; refine ⟨_, rfl, ?_⟩; have HOA := zK_ hoA; have HBA := zK_ hbA; clear hoA hbA) | ((with_reducible refine gate_builtin (b := .append) (xs := #[.tmp 39, .tmp 41]) rfl ?_); at_builtin; refine Kd.R_append (Kd.int .i64) (w0 := wr) wr.heap.size rfl (.tmp 39) (.tmp 41) 26 3 (.int .i64 0) 8 rfl Try.underlying26 info3 rfl (by decide) (by omega) vA x (j : Int) [.int .i64 (j : Int)] (fun _ => True) (fun _ => False) rfl rfl rfl (fun _ hk => hk.elim) (fun _ _ => trivial) HOA.out HBA.out (below_size HBA.out) (by have := hxl; omega) ?_; intro vC wC ho hb hg hat; obtain ⟨Ad, cd, ed⟩ := Kd.R_slice ho; subst ed; rw [show (x ++ [(j : Int)]).length = x.length + 1 from List.length_append] at ho; have HD := zK_ (Kd.R_mono (Kd.R_bound ho) (ok' := fun k_ => wr.heap.size ≤ k_) fun k_ hk => hk.2.1); have HBC := zK_ hb; clear ho hb hg hat) | ((with_reducible refine gate_builtin (b := .append) (xs := #[.tmp 37, .tmp 43]) rfl ?_); at_builtin; refine Kd.S_append (Kd.slice 3 (Kd.int .i64)) (w0 := w2) w2.heap.size rfl (.tmp 37) (.tmp 43) 34 26 (.slice none 0 0) 24 rfl Try.underlying34 info26 rfl (by decide) (by omega) u8 (Cf.outB cn L i ++ Cf.extB j x) (x ++ [(j : Int)]) [.slice Ad (x.length + 1) cd] (fun k_ => w5.heap.size ≤ k_) (fun k_ => wr.heap.size ≤ k_) rfl rfl (Kd.M_row (Kd.R_lower HD.out (below_size HBi.out))) (fun k_ hk => ⟨by have := HJ.out; omega, fun e => by have := Kd.S_lt HSi.out k_ e.symm; omega⟩) (fun k_ hk => by have := HJ.out; have := HBC.out.size; omega) (Kd.S_mono (Kd.S_below (Kd.S_bound HSi.out) HBC.out) fun k_ hk => ⟨hk.1, fun h => by have := hk.2.2.1; omega⟩) (below_step HBi.out HBC.out) (below_size (below_step HBi.out HBC.out)) (by have := HLA.out; omega) ?_; intro vE wE ho hb hg hat; have HOE := zK_ ho; have HBE := zK_ hb; have HLE := zK_ (Kd.S_grown (Kd.S_below (Kd.S_bound HLi.out) HBC.out) hg fun k_ hk e => by have := HSi.out.choose_spec.1 k_ e.symm; have := hk.1; omega); have HZE := zK_ hg.size; have HRE := zK_ (Kd.R_step (Kd.R_below HRj.out HBC.out) fun k_ hk hlt => hg.block k_ hlt fun e => by have := HSi.out.choose_spec.1 k_ e.symm; omega); clear ho hb hg hat))); go_roundw
     case rel =>
      refine ⟨j + 1, by go_num, ⟨by have := HJN.out; omega, by have := HBC.out.size; have := HZE.out; have := HJ.out; omega⟩, HBE, ⟨Kd.S_mono HLE.out fun k_ hk => hk.1⟩, ⟨?_⟩, HRE⟩; rw [Cf.extB_succ, ← List.append_assoc]; exact HOE.out
     case measure =>
      have := HJN.out; first | (simp [intOf]; done) | (simp [intOf]; omega)
    have d0 : decide ((j : Int) ≤ m1) = false := decide_eq_false (by have := HCN.out; omega); (have hjn : j = cn := by have := HJ.out; omega); subst hjn; clear hj; go_wp2; go_roundw
    case rel =>
     refine ⟨i + 1, by go_num, ⟨by have := HLT.out; omega, HJ.out.2⟩, HBi, HLi, ⟨?_⟩⟩; rw [Cf.outB_succ _ HXI.out]; exact HSi.out
    case measure =>
     have := HLT.out; (simp [intOf]); omega
def impl_sumOf.l0 : Nat → Int → List Int → Int → Int → Option (Int)
 | 0, _, _, _, _ => none
 | k + 1, x3, x6, x7, x8 => if x8 < x7 then (if 0 ≤ x8 then (if x8 < (x6.length : Int) then (impl_sumOf.l0 k (wrap64 (x3 + (rd x6 x8))) x6 x7 (wrap64 (x8 + 1))) else (none)) else (none)) else (some x3)
def impl_sumOf.f (k : Nat) (l0 : List Int) : Option (Int) := impl_sumOf.l0 k 0 l0 (l0.length : Int) 0
theorem impl_sumOf.mono_l : ∀ k, (∀ y0 y1 y2 y3, LeO (impl_sumOf.l0 k y0 y1 y2 y3) (impl_sumOf.l0 (k + 1) y0 y1 y2 y3))
 | 0 => fun _ _ _ _ r h => by simp [impl_sumOf.l0] at h
 | k + 1 => by
  have ih0 := impl_sumOf.mono_l k
  ·intro y0 y1 y2 y3
   unfold impl_sumOf.l0
   exact zm0
theorem impl_sumOf.mono : ∀ a0 k, LeO (impl_sumOf.f k a0) (impl_sumOf.f (k + 1) a0) := by
 intro a0 k; have ih0 := impl_sumOf.mono_l k; unfold impl_sumOf.f; exact zm0
theorem impl_sumOf.calls (k : Nat) (A0 : Option Addr) (c0 : Nat) (l0 : List Int) (r : Int) (w : World) (hr0 : Kd.C (Kd.int .i64) w A0 l0.length l0) (hc0 : l0.length ≤ c0) (h : impl_sumOf.f k l0 = some r) :
  Calls Try.prog 64 #[.slice A0 l0.length c0] w fun e w' => e = .returned (.int .i64 r) ∧ Drawn0 w w' := by
 have HR0 := zK_ hr0; have HC0 := zK_ hc0; clear hr0 hc0; have H : (impl_sumOf.l0 k 0 l0 (l0.length : Int) 0) = some r := h; clear h; have H' := zK_ H; clear H; go_enter Try.func64, Try.ntmps64; go_wp2; (go_loopg [3, 8] k (fun kq v3 v8 w' => ∃ (bT : Int) (bK : Int), v3 = .int .i64 bT ∧ v8 = .int .i64 bK ∧ Aside0 (impl_sumOf.l0 kq bT l0 (l0.length : Int) bK = some r) ∧ Aside0 (kq ≤ k) ∧ Drawn0 w w')); case atStart => exact ⟨(0), (0), zz5, zz5, H', ⟨Nat.le_refl _⟩, by repeat (first | exact Drawn0.refl _ | apply Drawn0.step)⟩
 case round =>
  clear H'; obtain ⟨bT, bK, rfl, rfl, HA, HK1, ⟨m1, rfl⟩⟩ := hrel
  cases gk with
  | zero => exact absurd HA.out (by simp [impl_sumOf.l0])
  | succ k1 =>
   have H := HA.out; clear HA; simp only [impl_sumOf.l0] at H; by_cases c2 : bK < (l0.length : Int); rotate_left
   ·rw [if_neg c2] at H; have jT := decide_eq_false c2; clear c2; obtain rfl := Option.some.inj H; go_wp2; go_ret; exact ⟨zz5, by repeat (first | exact Drawn0.refl _ | apply Drawn0.step)⟩
   rw [if_pos c2] at H; have jT := decide_eq_true c2; clear c2; by_cases c3 : 0 ≤ bK; rotate_left
   ·rw [if_neg c3] at H; exact absurd H (by simp)
   rw [if_pos c3] at H; have dB := decide_eq_true c3; clear c3; by_cases c4 : bK < (l0.length : Int); rotate_left
   ·rw [if_neg c4] at H; exact absurd H (by simp)
   rw [if_pos c4] at H; have cY := decide_eq_true c4; clear c4; have H' := zK_ H; clear H; have p101 : 0 ≤ (bK : Int) := of_decide_eq_true zz3; have q101 : bK < (l0.length : Int) := of_decide_eq_true zz3; obtain ⟨cF, e101, a8⟩ := Kd.at_int HR0.out bK p101 q101; cases e101; replace p101 := eq_true p101; replace q101 := eq_true q101; go_wp2; go_roundg k1; (case measure => have := HK1.out; omega); case rel => exact ⟨(wrap64 (bT + (rd l0 bK))), (wrap64 (bK + 1)), zz5, zz5, H', ⟨zz34⟩, by repeat (first | exact Drawn0.refl _ | apply Drawn0.step)⟩
def slices_Compare_int_int.l0 : Nat → List Int → List Int → List Int → Int → Int → Option (Int)
 | 0, _, _, _, _, _ => none
 | k + 1, x0, x1, x9, fE, eH => if eH < fE then (if 0 ≤ eH then (if eH < (x9.length : Int) then (if eH ≥ (x1.length : Int) then (some 1) else (if eH < (x1.length : Int) then ((cmp_Compare_int.f (rd x9 eH) (rd x1 eH)).bind fun bL => (if bL = 0 then (slices_Compare_int_int.l0 k x0 x1 x9 fE (wrap64 (eH + 1))) else (some bL))) else (none))) else (none)) else (none)) else (if (x0.length : Int) < (x1.length : Int) then (some (-1)) else (some 0))
def slices_Compare_int_int.f (k : Nat) (l0 : List Int) (l1 : List Int) : Option (Int) := slices_Compare_int_int.l0 k l0 l1 l0 (l0.length : Int) 0
theorem slices_Compare_int_int.mono_l : ∀ k, (∀ y0 y1 y2 y3 y4, LeO (slices_Compare_int_int.l0 k y0 y1 y2 y3 y4) (slices_Compare_int_int.l0 (k + 1) y0 y1 y2 y3 y4))
 | 0 => fun _ _ _ _ _ r h => by simp [slices_Compare_int_int.l0] at h
 | k + 1 => by
  have ih0 := slices_Compare_int_int.mono_l k
  ·intro y0 y1 y2 y3 y4
   unfold slices_Compare_int_int.l0
   exact zm0
theorem slices_Compare_int_int.mono : ∀ a0 a1 k, LeO (slices_Compare_int_int.f k a0 a1) (slices_Compare_int_int.f (k + 1) a0 a1) := by
 intro a0 a1 k; have ih0 := slices_Compare_int_int.mono_l k; unfold slices_Compare_int_int.f; exact zm0
theorem slices_Compare_int_int.calls (k : Nat) (A0 : Option Addr) (c0 : Nat) (l0 : List Int) (A1 : Option Addr) (c1 : Nat) (l1 : List Int) (r : Int) (w : World) (hr0 : Kd.C (Kd.int .i64) w A0 l0.length l0) (hc0 : l0.length ≤ c0) (hr1 : Kd.C (Kd.int .i64) w A1 l1.length l1) (hc1 : l1.length ≤ c1) (h : slices_Compare_int_int.f k l0 l1 = some r) :
  Calls Try.prog 66 #[.slice A0 l0.length c0, .slice A1 l1.length c1] w fun e w' => e = .returned (.int .i64 r) ∧ Drawn0 w w' := by
 have HR0 := zK_ hr0; have HC0 := zK_ hc0; clear hr0 hc0; have HR1 := zK_ hr1; have HC1 := zK_ hc1; clear hr1 hc1; have H : (slices_Compare_int_int.l0 k l0 l1 l0 (l0.length : Int) 0) = some r := h; clear h; have H' := zK_ H; clear H; go_enter Try.func66, Try.ntmps66; go_wp2; (go_loopg [11] k (fun kq v11 w' => ∃ (aI : Int), v11 = .int .i64 aI ∧ Aside0 (slices_Compare_int_int.l0 kq l0 l1 l0 (l0.length : Int) aI = some r) ∧ Aside0 (kq ≤ k) ∧ Drawn0 w w')); case atStart => exact ⟨(0), zz5, H', ⟨Nat.le_refl _⟩, by repeat (first | exact Drawn0.refl _ | apply Drawn0.step)⟩
 case round =>
  clear H'; (try clear c1); (try clear p2); obtain ⟨aI, rfl, HA, HK1, ⟨m1, rfl⟩⟩ := hrel
  cases gk with
  | zero => exact absurd HA.out (by simp [slices_Compare_int_int.l0])
  | succ k1 =>
   have H := HA.out; clear HA; simp only [slices_Compare_int_int.l0] at H; by_cases c3 : aI < (l0.length : Int); rotate_left
   ·rw [if_neg c3] at H; have dB := decide_eq_false c3; clear c3; by_cases c10 : (l0.length : Int) < (l1.length : Int)
    ·rw [if_pos c10] at H; have gN := decide_eq_true c10; have tF : decide (l0.length < l1.length) = true := decide_eq_true (Int.ofNat_lt.mp c10); clear c10; obtain rfl := Option.some.inj H; go_wp2; go_ret; exact ⟨zz5, by repeat (first | exact Drawn0.refl _ | apply Drawn0.step)⟩
    rw [if_neg c10] at H; have gN := decide_eq_false c10; have tF : decide (l0.length < l1.length) = false := decide_eq_false (fun h => c10 (Int.ofNat_lt.mpr h)); clear c10; obtain rfl := Option.some.inj H; go_wp2; go_ret; exact ⟨zz5, by repeat (first | exact Drawn0.refl _ | apply Drawn0.step)⟩
   rw [if_pos c3] at H; have dB := decide_eq_true c3; clear c3; by_cases c4 : 0 ≤ aI; rotate_left
   ·rw [if_neg c4] at H; exact absurd H (by simp)
   rw [if_pos c4] at H; have cY := decide_eq_true c4; clear c4; by_cases c5 : aI < (l0.length : Int); rotate_left
   ·rw [if_neg c5] at H; exact absurd H (by simp)
   rw [if_pos c5] at H; have dF := decide_eq_true c5; clear c5; by_cases c6 : aI ≥ (l1.length : Int)
   ·rw [if_pos c6] at H; have eN : decide ((l1.length : Int) ≤ aI) = true := decide_eq_true c6; clear c6; obtain rfl := Option.some.inj H; have p101 : 0 ≤ (aI : Int) := of_decide_eq_true zz3; have q101 : aI < (l0.length : Int) := of_decide_eq_true zz3; obtain ⟨cF, e101, a8⟩ := Kd.at_int HR0.out aI p101 q101; cases e101; replace p101 := eq_true p101; replace q101 := eq_true q101; go_wp2; go_ret; exact ⟨zz5, by repeat (first | exact Drawn0.refl _ | apply Drawn0.step)⟩
   rw [if_neg c6] at H; have eN : decide ((l1.length : Int) ≤ aI) = false := decide_eq_false c6; clear c6; by_cases c7 : aI < (l1.length : Int); rotate_left
   ·rw [if_neg c7] at H; exact absurd H (by simp)
   rw [if_pos c7] at H; have dL := decide_eq_true c7; clear c7; obtain ⟨bL, A80, H⟩ := zO_ H; (try dsimp only at H); have A8 := zK_ A80; clear A80; by_cases c9 : bL = 0; rotate_left
   ·rw [if_neg c9] at H; have fJ : (bL == 0) = false := beq_eq_false_iff_ne.mpr c9; have pA : (bL != 0) = true := bne_iff_ne.mpr c9; obtain rfl := Option.some.inj H; have p101 : 0 ≤ (aI : Int) := of_decide_eq_true zz3; have q101 : aI < (l0.length : Int) := of_decide_eq_true zz3; obtain ⟨cF, e101, a8⟩ := Kd.at_int HR0.out aI p101 q101; cases e101; replace p101 := eq_true p101; replace q101 := eq_true q101; have p102 : 0 ≤ (aI : Int) := of_decide_eq_true zz3; have q102 : aI < (l1.length : Int) := of_decide_eq_true zz3; obtain ⟨cO, e102, a7⟩ := Kd.at_int HR1.out aI p102 q102; cases e102; replace p102 := eq_true p102; replace q102 := eq_true q102; (go_wp2_with (first | ((with_reducible refine gate_callee (f := 100) rfl ?_); refine goesL_ (some 26) rfl rfl Try.func100 (by kernel_rfl) rfl #[.int .i64 (rd l0 aI), .int .i64 (rd l1 aI)] rfl zz4 ?_; (with_reducible refine (cmp_Compare_int.calls (rd l0 aI) (rd l1 aI) bL _ A8.out).mono ?_); rintro e w' ⟨rfl, ⟨nd, rfl⟩⟩; refine ⟨_, rfl, ?_⟩))); go_ret; exact ⟨zz5, by repeat (first | exact Drawn0.refl _ | apply Drawn0.step)⟩
   rw [if_pos c9] at H; have fJ : (bL == 0) = true := beq_iff_eq.mpr c9; have pA : (bL != 0) = false := bne_eq_false_iff_eq.mpr c9; clear c9; have H' := zK_ H; clear H; have p101 : 0 ≤ (aI : Int) := of_decide_eq_true zz3; have q101 : aI < (l0.length : Int) := of_decide_eq_true zz3; obtain ⟨cF, e101, a8⟩ := Kd.at_int HR0.out aI p101 q101; cases e101; replace p101 := eq_true p101; replace q101 := eq_true q101; have p102 : 0 ≤ (aI : Int) := of_decide_eq_true zz3; have q102 : aI < (l1.length : Int) := of_decide_eq_true zz3; obtain ⟨cO, e102, a7⟩ := Kd.at_int HR1.out aI p102 q102; cases e102; replace p102 := eq_true p102; replace q102 := eq_true q102; (go_wp2_with (first | ((with_reducible refine gate_callee (f := 100) rfl ?_); refine goesL_ (some 26) rfl rfl Try.func100 (by kernel_rfl) rfl #[.int .i64 (rd l0 aI), .int .i64 (rd l1 aI)] rfl zz4 ?_; (with_reducible refine (cmp_Compare_int.calls (rd l0 aI) (rd l1 aI) bL _ A8.out).mono ?_); rintro e w' ⟨rfl, ⟨nd, rfl⟩⟩; refine ⟨_, rfl, ?_⟩))); go_roundg k1; (case measure => have := HK1.out; omega); case rel => exact ⟨(wrap64 (aI + 1)), zz5, H', ⟨zz34⟩, by repeat (first | exact Drawn0.refl _ | apply Drawn0.step)⟩
end Go.Proofs.Ytnbljcgdgblgoaa.P
end

section
namespace Go.Proofs.Ytnbljcgdgblgoaa.Cf
set_option linter.unusedVariables false
set_option linter.unusedSimpArgs false
open Go.RowKit Go.Proofs.YtnbljcgdgblgoaaW.PrintWords
def lexC : List Int → List Int → Int
 | [], [] => 0
 | [], _ :: _ => -1
 | _ :: _, [] => 1
 | x :: xs, y :: ys => if x = y then lexC xs ys else if x < y then -1 else 1
theorem lexC_self : ∀ x : List Int, lexC x x = 0
 | [] => rfl
 | x :: xs => by unfold lexC; rw [if_pos rfl]; exact lexC_self xs
theorem lexC_neg : ∀ x y : List Int, lexC y x = - lexC x y
 | [], [] => rfl
 | [], _ :: _ => rfl
 | _ :: _, [] => rfl
 | x :: xs, y :: ys => by
  unfold lexC
  by_cases e : x = y
  ·rw [if_pos e, if_pos e.symm]
   exact lexC_neg xs ys
  ·rw [if_neg e, if_neg (fun h => e h.symm)]
   by_cases h : x < y
   ·rw [if_pos h, if_neg (by omega)]
    rfl
   ·rw [if_neg h, if_pos (by omega)]
theorem lexC_zero : ∀ {x y : List Int}, lexC x y = 0 → x = y
 | [], [], _ => rfl
 | [], _ :: _, h => by simp [lexC] at h
 | _ :: _, [], h => by simp [lexC] at h
 | x :: xs, y :: ys, h => by
  unfold lexC at h
  by_cases e : x = y
  ·rw [if_pos e] at h
   rw [e, lexC_zero h]
  ·rw [if_neg e] at h
   split at h <;> omega
theorem lexC_le : ∀ {x y z : List Int}, lexC x y ≤ 0 → lexC y z ≤ 0 → lexC x z ≤ 0
 | [], _, [], _, _ => by simp [lexC]
 | [], _, _ :: _, _, _ => by simp [lexC]
 | _ :: _, [], _, h, _ => by simp [lexC] at h
 | x :: xs, y :: ys, [], _, h => by simp [lexC] at h
 | x :: xs, y :: ys, z :: zs, h1, h2 => by
  unfold lexC at h1 h2 ⊢
  by_cases e1 : x = y
  ·subst e1
   by_cases e2 : x = z
   ·rw [if_pos rfl] at h1
    rw [if_pos e2] at h2
    rw [if_pos e2]
    exact lexC_le h1 h2
   ·rw [if_neg e2] at h2
    rw [if_neg e2]
    exact h2
  ·rw [if_neg e1] at h1
   have h3 : x < y := by
    apply Classical.byContradiction
    intro c
    rw [if_neg c] at h1
    omega
   by_cases e2 : y = z
   ·subst e2
    rw [if_neg e1, if_pos h3]
    omega
   ·rw [if_neg e2] at h2
    have h4 : y < z := by
     apply Classical.byContradiction
     intro c
     rw [if_neg c] at h2
     omega
    rw [if_neg (by omega), if_pos (by omega)]
    omega
theorem lexC_lt {x y z : List Int} (h1 : lexC x y < 0) (h2 : lexC y z < 0) : lexC x z < 0 := by
 have h3 := lexC_le (Int.le_of_lt h1) (Int.le_of_lt h2)
 apply Classical.byContradiction
 intro c
 have h4 : lexC x z = 0 := by omega
 have h5 := lexC_zero h4
 subst h5
 have := lexC_neg x y
 omega
def sortL (L : List (List Int)) : List (List Int) := L.mergeSort fun x y => decide (lexC x y ≤ 0)
theorem sortL_perm (L : List (List Int)) : (sortL L).Perm L := List.mergeSort_perm L _
theorem sortL_len (L : List (List Int)) : (sortL L).length = L.length := (sortL_perm L).length_eq
theorem sortL_mem {L : List (List Int)} {x : List Int} : x ∈ sortL L ↔ x ∈ L := (sortL_perm L).mem_iff
theorem sortL_srt (L : List (List Int)) : (sortL L).Pairwise fun x y => lexC x y ≤ 0 := by
 have h := List.pairwise_mergeSort (le := fun x y : List Int => decide (lexC x y ≤ 0)) (fun a b c h1 h2 => decide_eq_true (lexC_le (of_decide_eq_true h1) (of_decide_eq_true h2))) (fun a b => by have := lexC_neg a b; simp; omega) L
 exact h.imp fun h => of_decide_eq_true h
theorem sortL_eq {L s : List (List Int)} (h1 : s.Perm L) (h2 : s.Pairwise fun x y => lexC x y ≤ 0) : s = sortL L :=
 List.Perm.eq_of_pairwise (fun a b _ _ h3 h4 => lexC_zero (by have := lexC_neg a b; omega)) h2 (sortL_srt L) (h1.trans (sortL_perm L).symm)
theorem heads_SZ {w : World} {base g cap : Nat} {ok : Nat → Prop} {f : Nat → Nat} {cur : Array Value} {Z : List (List Int × Nat)} (hb : base ≤ g) (hok : ok g) (hn : Z.length ≤ cap) (hcm : cap ≤ maxLen) (hcs : cur.size = cap) (hc : w.heap[g]? = some (.cells cur 26 (0, 0))) (hz : (Z.map (·.2)).Nodup) (hH : Heads w base ok f cur Z) :
  Kd.S (Kd.slice 3 (Kd.int .i64)) 26 w base ok (.slice (some ⟨g, 0, none⟩) Z.length cap) (Z.map (·.1)) := by
 have h2 : Heads w base ok (fun k => (Z.map (·.2)).idxOf (f k)) cur (Z.map (·.1)).zipIdx := by
  intro j x i hj
  rw [List.getElem?_zipIdx, Nat.zero_add, List.getElem?_map] at hj
  obtain ⟨y, hy, he⟩ := Option.map_eq_some_iff.1 hj
  obtain ⟨z, hz1, hz2⟩ := Option.map_eq_some_iff.1 hy
  obtain ⟨rfl, rfl⟩ := Prod.mk.inj he
  obtain ⟨x, i⟩ := z
  obtain rfl : x = y := hz2
  obtain ⟨v, hv, hR⟩ := hH j x i hz1
  refine ⟨v, hv, Kd.R_mono hR fun k hk => ⟨hk.1, ?_⟩⟩
  have hm : (Z.map (·.2))[j]? = some i := by rw [List.getElem?_map, hz1]; rfl
  obtain ⟨hjl, hje⟩ := List.getElem?_eq_some_iff.1 hm
  show (Z.map (·.2)).idxOf (f k) = j
  rw [hk.2, ← hje]
  exact hz.idxOf_getElem j hjl
 have h3 := heads_S (rows := Z.map (·.1)) hb hok (by rw [List.length_map]; exact hn) hcm hcs hc h2
 rw [List.length_map] at h3
 exact h3
end Go.Proofs.Ytnbljcgdgblgoaa.Cf
end

section
namespace Go.Proofs.Ytnbljcgdgblgoaa.P
open Go.RowKit Go.Proofs.YtnbljcgdgblgoaaW.PrintWords Go.Proofs.YtnbljcgdgblgoaaW.PrintLast Go.Proofs.YtnbljcgdgblgoaaW.PrintMore
attribute [local go_sem] max2_int min2_int max_two min_two max_three min_three max_four min_four
set_option linter.unusedVariables false
set_option linter.unusedSimpArgs false
def slices_SortFunc_int_int.ren : Go.Shelf.Ren := ⟨fun n => if n = 6 then 65 else if n = 14 then 99 else if n = 15 then 84 else if n = 20 then 125 else if n = 21 then 126 else if n = 22 then 127 else if n = 23 then 128 else if n = 24 then 129 else if n = 25 then 130 else if n = 26 then 131 else if n = 27 then 132 else if n = 28 then 118 else if n = 29 then 119 else if n = 46 then 148 else if n = 47 then 139 else if n = 48 then 140 else if n = 49 then 149 else if n = 50 then 150 else if n = 57 then 152 else n, fun n => if n = 0 then 0 else if n = 3 then 3 else if n = 4 then 4 else if n = 5 then 5 else if n = 9 then 9 else if n = 22 then 34 else if n = 24 then 26 else if n = 25 then 82 else if n = 39 then 91 else if n = 45 then 110 else if n = 46 then 111 else if n = 50 then 115 else if n = 53 then 118 else if n = 55 then 120 else if n = 66 then 132 else if n = 70 then 136 else if n = 76 then 142 else if n = 77 then 143 else n, fun n => n⟩
theorem slices_SortFunc_int_int.lay : Go.Proofs.SlLaysF.n6 Try.prog slices_SortFunc_int_int.ren where
 mixed := by kernel_rfl
 f6 := Exists.intro ("slices.SortFunc[[][]int,[]int]") (And.intro (by kernel_rfl) (by kernel_rfl))
 f14 := Exists.intro ("slices.pdqsortCmpFunc[[]int]") (And.intro (by kernel_rfl) (by kernel_rfl))
 f15 := by kernel_rfl
 f20 := Exists.intro ("slices.insertionSortCmpFunc[[]int]") (And.intro (by kernel_rfl) (by kernel_rfl))
 f21 := Exists.intro ("slices.heapSortCmpFunc[[]int]") (And.intro (by kernel_rfl) (by kernel_rfl))
 f22 := Exists.intro ("slices.breakPatternsCmpFunc[[]int]") (And.intro (by kernel_rfl) (by kernel_rfl))
 f23 := Exists.intro ("slices.choosePivotCmpFunc[[]int]") (And.intro (by kernel_rfl) (by kernel_rfl))
 f24 := Exists.intro ("slices.reverseRangeCmpFunc[[]int]") (And.intro (by kernel_rfl) (by kernel_rfl))
 f25 := Exists.intro ("slices.partialInsertionSortCmpFunc[[]int]") (And.intro (by kernel_rfl) (by kernel_rfl))
 f26 := Exists.intro ("slices.partitionEqualCmpFunc[[]int]") (And.intro (by kernel_rfl) (by kernel_rfl))
 f27 := Exists.intro ("slices.partitionCmpFunc[[]int]") (And.intro (by kernel_rfl) (by kernel_rfl))
 f28 := by kernel_rfl
 f29 := by kernel_rfl
 f46 := Exists.intro ("slices.siftDownCmpFunc[[]int]") (And.intro (by kernel_rfl) (by kernel_rfl))
 f47 := by kernel_rfl
 f48 := by kernel_rfl
 f49 := Exists.intro ("slices.medianAdjacentCmpFunc[[]int]") (And.intro (by kernel_rfl) (by kernel_rfl))
 f50 := Exists.intro ("slices.medianCmpFunc[[]int]") (And.intro (by kernel_rfl) (by kernel_rfl))
 f57 := Exists.intro ("slices.order2CmpFunc[[]int]") (And.intro (by kernel_rfl) (by kernel_rfl))
 t0 := by kernel_rfl
 a0 := fun _ => rfl
 z0 := fun _ => rfl
 v0 := fun _ => rfl
 t3 := by kernel_rfl
 a3 := fun _ => rfl
 z3 := fun _ => rfl
 v3 := fun _ => rfl
 t4 := by kernel_rfl
 a4 := fun _ => rfl
 z4 := fun _ => rfl
 v4 := fun _ => rfl
 t5 := by kernel_rfl
 a5 := fun _ => rfl
 z5 := fun _ => rfl
 v5 := fun _ => rfl
 t9 := by kernel_rfl
 a9 := fun _ => rfl
 z9 := fun _ => rfl
 v9 := fun _ => rfl
 t22 := by kernel_rfl
 a22 := fun _ => rfl
 z22 := fun _ => rfl
 v22 := fun _ => rfl
 a24 := fun _ => rfl
 z24 := fun _ => rfl
 t25 := by kernel_rfl
 a25 := fun _ => rfl
 z25 := fun _ => rfl
 v25 := fun _ => rfl
 t39 := by kernel_rfl
 a39 := fun _ => rfl
 z39 := fun _ => rfl
 v39 := fun _ => rfl
 t45 := by kernel_rfl
 a45 := fun _ => rfl
 z45 := fun _ => rfl
 v45 := fun _ => rfl
 t46 := by kernel_rfl
 a46 := fun _ => rfl
 z46 := fun _ => rfl
 v46 := fun _ => rfl
 t50 := by kernel_rfl
 a50 := fun _ => rfl
 z50 := fun _ => rfl
 v50 := fun _ => rfl
 t53 := by kernel_rfl
 a53 := fun _ => rfl
 z53 := fun _ => rfl
 v53 := fun _ => rfl
 t55 := by kernel_rfl
 a55 := fun _ => rfl
 z55 := fun _ => rfl
 v55 := fun _ => rfl
 t66 := by kernel_rfl
 a66 := fun _ => rfl
 z66 := fun _ => rfl
 v66 := fun _ => rfl
 t70 := by kernel_rfl
 a70 := fun _ => rfl
 z70 := fun _ => rfl
 v70 := fun _ => rfl
 t76 := by kernel_rfl
 a76 := fun _ => rfl
 z76 := fun _ => rfl
 v76 := fun _ => rfl
 t77 := by kernel_rfl
 a77 := fun _ => rfl
 z77 := fun _ => rfl
 v77 := fun _ => rfl
theorem slices_SortFunc_int_int.other {α : Type} [Inhabited α] (enc : α → Value) (w : World) (g m : Nat) (dk : Array α) (os : Array Obj) (k : Nat) (hk : k ≠ g) (hlt : k < w.heap.size) : (Go.Proofs.sortWorld enc w g 0 m dk os).heap[k]? = w.heap[k]? := by
 show ((w.heap.modify g (Go.Sort.onCells (Go.Sort.putCells enc 0 dk))) ++ os)[k]? = _; rw [Array.getElem?_append_left (by rw [Array.size_modify]; exact hlt), Array.getElem?_modify, if_neg (fun e => hk e.symm)]
theorem slices_SortFunc_int_int.here {α : Type} [Inhabited α] (enc : α → Value) (w : World) (g m : Nat) (dk : Array α) (os : Array Obj) {cur : Array Value} {t : TypeId} (hc : w.heap[g]? = some (.cells cur t (0, 0))) : (Go.Proofs.sortWorld enc w g 0 m dk os).heap[g]? = some (.cells (Go.Sort.putCells enc 0 dk cur) t (0, 0)) := by
 have hlt : g < w.heap.size := blk_lt hc; show ((w.heap.modify g (Go.Sort.onCells (Go.Sort.putCells enc 0 dk))) ++ os)[g]? = _; rw [Array.getElem?_append_left (by rw [Array.size_modify]; exact hlt), Array.getElem?_modify, if_pos rfl, hc]; rfl
theorem slices_SortFunc_int_int.calls (k : Nat) (L : List (List Int)) (base : Nat) (ok : Nat → Prop) (v : Value) (w : World) (hS : Kd.S (Kd.slice 3 (Kd.int .i64)) 26 w base ok v L) (hl : L.length ≤ 1000000000) (hcmp : ∀ x ∈ L, ∀ y ∈ L, slices_Compare_int_int.f k x y = some (Cf.lexC x y)) :
  Calls Try.prog 65 #[v, .func (.func 66) #[] #[]] w fun e w' => e = .returned (.tuple #[]) ∧ Kd.S (Kd.slice 3 (Kd.int .i64)) 26 w' base ok v (Cf.sortL L) ∧ Below base w w' := by
 by_cases hL : L = []
 ·subst hL; obtain ⟨A, c, rfl⟩ := Kd.S_slice hS; have h := Go.Proofs.AnyF.slices_SortFunc_none (P := Try.prog) (ρ := slices_SortFunc_int_int.ren) { slices_SortFunc_int_int.lay with } A c (.func (.func 66) #[] #[]) w; change Calls Try.prog 65 _ _ _ at h; refine h.mono ?_; rintro e w' ⟨rfl, rfl⟩; exact ⟨rfl, by rw [(Cf.sortL_perm []).eq_nil]; exact hS, Below.refl _ _⟩
 have hpos : 0 < L.length := List.length_pos_iff.2 hL; obtain ⟨g, cap, rfl, _⟩ := Kd.S_form hS hpos; obtain ⟨f, cur, hb, hok, _, hnc, hcm, hcs, hc, hH⟩ := Cf.S_heads hS; have hin : Inhabited (Fin L.length) := ⟨⟨0, hpos⟩⟩; have hlt : ∀ i : Fin L.length, i.val < cur.size := fun i => by have := i.isLt; omega
 have key : ∀ i : Fin L.length, Kd.R (Kd.int .i64) 3 w base (fun k => (ok k ∧ k ≠ g) ∧ f k = i.val) (cur[i.val]'(hlt i)) (L[i.val]'i.isLt) := by
  intro i; obtain ⟨v, hv, hR⟩ := hH i.val (L[i.val]'i.isLt) i.val (by rw [List.getElem?_zipIdx, Nat.zero_add, List.getElem?_eq_getElem i.isLt]; rfl); rw [Array.getElem?_eq_getElem (hlt i)] at hv; rw [Option.some.inj hv]; exact hR
 (have h1 : Go.Proofs.OneCell (fun i : Fin L.length => cur[i.val]'(hlt i)) := fun i => (Kd.R_val (key i)).2); have hsz : (List.finRange L.length).toArray.size = L.length := by simp
 have hget : ∀ j, (hj : j < L.length) → (List.finRange L.length).toArray[j]! = ⟨j, hj⟩ := fun j hj => by
  rw [getElem!_pos _ j (by simpa using hj)]; simp
 have hHo : Go.Sort.Holds (fun i : Fin L.length => cur[i.val]'(hlt i)) w g 0 (List.finRange L.length).toArray := by
  intro j hj; rw [hsz] at hj; refine ⟨?_, blk_frozen hc _⟩; rw [hget j hj, blk_cell hc, Nat.zero_add, Array.getElem?_eq_getElem (by omega)]
 have hcf : ∀ x y : Fin L.length, Go.Proofs.ltOf (fun i j : Fin L.length => Cf.lexC (L[i.val]'i.isLt) (L[j.val]'j.isLt)) x y = decide (Cf.lexC (L[x.val]'x.isLt) (L[y.val]'y.isLt) < 0) := fun _ _ => rfl
 have hO : Go.Sort.SWO (Go.Proofs.ltOf (fun i j : Fin L.length => Cf.lexC (L[i.val]'i.isLt) (L[j.val]'j.isLt))) := by
  refine ⟨fun x => ?_, fun x y z h1 h2 => ?_, fun x y z h1 h2 => ?_⟩
  ·rw [hcf, Cf.lexC_self]; rfl
  ·rw [hcf] at *; exact decide_eq_true (Cf.lexC_lt (of_decide_eq_true h1) (of_decide_eq_true h2))
  ·rw [hcf] at *; have g1 := of_decide_eq_false h1; have g2 := of_decide_eq_false h2; have n1 := Cf.lexC_neg (L[x.val]'x.isLt) (L[y.val]'y.isLt); have n2 := Cf.lexC_neg (L[y.val]'y.isLt) (L[z.val]'z.isLt); have n3 := Cf.lexC_neg (L[x.val]'x.isLt) (L[z.val]'z.isLt); have := Cf.lexC_le (x := L[z.val]'z.isLt) (y := L[y.val]'y.isLt) (z := L[x.val]'x.isLt) (by omega) (by omega); exact decide_eq_false (by omega)
 have hreads : Go.Proofs.CmpReads Try.prog 66 #[] (fun i : Fin L.length => cur[i.val]'(hlt i)) (fun i j : Fin L.length => Cf.lexC (L[i.val]'i.isLt) (L[j.val]'j.isLt)) g 0 (List.finRange L.length).toArray.size w := by
  intro m os dk _ x y; have hx := Kd.R_step (w1 := Go.Proofs.sortWorld (fun i : Fin L.length => cur[i.val]'(hlt i)) w g 0 m dk os) (key x) (fun k hk hl => slices_SortFunc_int_int.other _ w g m dk os k hk.1.2 hl); have hy := Kd.R_step (w1 := Go.Proofs.sortWorld (fun i : Fin L.length => cur[i.val]'(hlt i)) w g 0 m dk os) (key y) (fun k hk hl => slices_SortFunc_int_int.other _ w g m dk os k hk.1.2 hl); obtain ⟨Ax, cx, ex, hcx, hCx⟩ := Kd.R_reads hx; obtain ⟨Ay, cy, ey, hcy, hCy⟩ := Kd.R_reads hy; show Calls Try.prog 66 #[cur[x.val]'(hlt x), cur[y.val]'(hlt y)] _ _; rw [ex, ey]; refine (slices_Compare_int_int.calls k Ax cx _ Ay cy _ _ _ hCx hcx hCy hcy (hcmp _ (List.getElem_mem _) _ (List.getElem_mem _))).mono ?_; rintro e w' ⟨rfl, hd⟩; exact ⟨rfl, hd.out⟩
 have eg : ∀ args w, (callFunc 66 args).run Try.prog w = .ok (.enter 66 args) w := Go.Proofs.enters_of Try.func66 (by kernel_rfl) rfl; have hT := Go.Proofs.Any.slices_SortFunc slices_SortFunc_int_int.lay (fun i : Fin L.length => cur[i.val]'(hlt i)) h1 (fun i j : Fin L.length => Cf.lexC (L[i.val]'i.isLt) (L[j.val]'j.isLt)) hO 66 #[] g 0 cap (List.finRange L.length).toArray w eg hreads.lays hHo (blk_lt hc) (by rw [hsz]; omega); change Calls Try.prog 65 _ _ _ at hT; rw [hsz] at hT; refine hT.mono ?_; rintro e w' ⟨rfl, d', n, os, hP, hSo, rfl⟩; clear hT hreads eg; refine ⟨rfl, ?_, rfl, rfl, rfl, ?_, fun k hk => ?_⟩
 ·obtain ⟨hds, _, hperm⟩ := hP; rw [hsz] at hds; (have e1 : d'.extract 0 L.length = d' := Array.ext (by rw [Array.size_extract]; omega) fun i _ _ => by simp); (have e2 : (List.finRange L.length).toArray.extract 0 L.length = (List.finRange L.length).toArray := by have h_ : (List.finRange L.length).take L.length = List.finRange L.length := List.take_of_length_le (by simp); simp [h_]); rw [e1, e2] at hperm; have hp : d'.toList.Perm (List.finRange L.length) := hperm
  have hmap : (d'.toList.map fun i : Fin L.length => (L[i.val]'i.isLt, i.val)).map (·.1) = Cf.sortL L := by
   rw [List.map_map]; refine Cf.sortL_eq ?_ ?_
   ·refine (hp.map _).trans ?_
    have e : (List.finRange L.length).map ((fun p : List Int × Nat => p.1) ∘ fun i : Fin L.length => (L[i.val]'i.isLt, i.val)) = L := by
     (refine List.ext_getElem (by simp) fun i h1 h2 => ?_); simp
    rw [e]
   ·rw [List.pairwise_map, List.pairwise_iff_getElem]; intro i j hi hj hij; (have hi' : i < d'.size := by simpa using hi); (have hj' : j < d'.size := by simpa using hj); have hs := hSo i j (Nat.zero_le _) hij (by omega); rw [getElem!_pos d' j hj', getElem!_pos d' i hi', hcf] at hs; have hs2 := of_decide_eq_false hs; have hn := Cf.lexC_neg (L[(d'[i]).val]'(d'[i]).isLt) (L[(d'[j]).val]'(d'[j]).isLt); show Cf.lexC (L[(d'.toList[i]).val]'_) (L[(d'.toList[j]).val]'_) ≤ 0; simp only [Array.getElem_toList]; omega
  rw [← hmap]; have hlen : (d'.toList.map fun i : Fin L.length => (L[i.val]'i.isLt, i.val)).length = L.length := by rw [List.length_map, Array.length_toList, hds]
  have hnd : ((d'.toList.map fun i : Fin L.length => (L[i.val]'i.isLt, i.val)).map (·.2)).Nodup := by
   rw [List.map_map]; refine (hp.map _).nodup_iff.2 ?_
   have e : (List.finRange L.length).map ((fun p : List Int × Nat => p.2) ∘ fun i : Fin L.length => (L[i.val]'i.isLt, i.val)) = List.range L.length := by
    (refine List.ext_getElem (by simp) fun i h1 h2 => ?_); simp
   rw [e]; exact List.nodup_range
  have hSZ := Cf.heads_SZ (w := Go.Proofs.sortWorld (fun i : Fin L.length => cur[i.val]'(hlt i)) w g 0 n d' os) (base := base) (g := g) (cap := cap) (ok := ok) (f := f) (cur := Go.Sort.putCells (fun i : Fin L.length => cur[i.val]'(hlt i)) 0 d' cur) (Z := d'.toList.map fun i : Fin L.length => (L[i.val]'i.isLt, i.val)) hb hok (by omega) hcm (by unfold Go.Sort.putCells; rw [Array.size_mapIdx]; exact hcs) (slices_SortFunc_int_int.here _ w g n d' os hc) hnd ?_
  ·rw [hlen] at hSZ; exact hSZ
  ·intro j x i hj; rw [List.getElem?_map] at hj; obtain ⟨t, ht, he⟩ := Option.map_eq_some_iff.1 hj; obtain ⟨rfl, rfl⟩ := Prod.mk.inj he; obtain ⟨hjl, hje⟩ := List.getElem?_eq_some_iff.1 ht; (have hjs : j < d'.size := by simpa using hjl); refine ⟨cur[t.val]'(hlt t), ?_, Kd.R_mono (Kd.R_step (key t) (fun k hk hl => slices_SortFunc_int_int.other _ w g n d' os k hk.1.2 hl)) fun k hk => ⟨hk.1.1, hk.2⟩⟩; unfold Go.Sort.putCells; rw [Array.getElem?_mapIdx, Array.getElem?_eq_getElem (show j < cur.size by omega), Option.map_some, if_pos ⟨Nat.zero_le _, by omega⟩, Nat.sub_zero, getElem!_pos d' j hjs]; (have e3 : d'[j] = t := by rw [← hje, Array.getElem_toList]); rw [e3]
 ·show w.heap.size ≤ ((w.heap.modify g (Go.Sort.onCells (Go.Sort.putCells (fun i : Fin L.length => cur[i.val]'(hlt i)) 0 d'))) ++ os).size; rw [Array.size_append, Array.size_modify]; omega
 ·have hgl : g < w.heap.size := blk_lt hc; exact slices_SortFunc_int_int.other _ w g n d' os k (by omega) (by omega)
def impl_ClassesOf.up (f : List Int → List Int) (L : List (List Int)) (i : Nat) : List (List Int) := (L.take i).map f ++ L.drop i
theorem impl_ClassesOf.up_len (f : List Int → List Int) (L : List (List Int)) (i : Nat) : (impl_ClassesOf.up f L i).length = L.length := by unfold impl_ClassesOf.up; rw [List.length_append, List.length_map, List.length_take, List.length_drop]; omega
theorem impl_ClassesOf.up_get (f : List Int → List Int) {L : List (List Int)} {i : Nat} (h : i < L.length) : (impl_ClassesOf.up f L i).getD i [] = L[i] := by
 unfold impl_ClassesOf.up; rw [List.getD_eq_getElem?_getD, List.getElem?_append_right (by rw [List.length_map, List.length_take]; omega), List.length_map, List.length_take, Nat.min_eq_left (by omega), Nat.sub_self, List.getElem?_drop, Nat.add_zero, List.getElem?_eq_getElem h]; rfl
theorem impl_ClassesOf.up_set (f : List Int → List Int) {L : List (List Int)} {i : Nat} (h : i < L.length) : (impl_ClassesOf.up f L i).set i (f L[i]) = impl_ClassesOf.up f L (i + 1) := by
 unfold impl_ClassesOf.up; (have hl : ((L.take i).map f).length = i := by rw [List.length_map, List.length_take]; omega); rw [List.set_append_right _ _ (by omega), hl, Nat.sub_self, List.drop_eq_getElem_cons h, List.set_cons_zero, List.take_succ_eq_append_getElem h, List.map_append, List.append_assoc]; rfl
def impl_ClassesOf.row (k : Nat) (x : List Int) : List Int := x.set 0 (wrap64 (-((impl_sumOf.f k x).getD 0)))
def impl_ClassesOf.rows (k : Nat) (L : List (List Int)) : List (List Int) := L.map (impl_ClassesOf.row k)
abbrev impl_ClassesOf.ok (k : Nat) (L : List (List Int)) : Prop := (∀ x ∈ L, (impl_sumOf.f k x).isSome = true ∧ 0 < x.length ∧ x.length ≤ 1000000) ∧ L.length ≤ 1000000 ∧ ∀ x ∈ impl_ClassesOf.rows k L, ∀ y ∈ impl_ClassesOf.rows k L, slices_Compare_int_int.f k x y = some (Cf.lexC x y)
theorem impl_ClassesOf.rows_up {k : Nat} {L : List (List Int)} (h : impl_ClassesOf.ok k L) : impl_ClassesOf.rows (k + 1) L = impl_ClassesOf.rows k L := by
 unfold impl_ClassesOf.rows; (refine List.map_congr_left fun x hx => ?_); obtain ⟨b, hb⟩ := Option.isSome_iff_exists.1 (h.1 x hx).1; unfold impl_ClassesOf.row; rw [hb, impl_sumOf.mono x k _ hb]
theorem impl_ClassesOf.ok_up {k : Nat} {L : List (List Int)} (h : impl_ClassesOf.ok k L) : impl_ClassesOf.ok (k + 1) L := by
 refine ⟨fun x hx => ⟨?_, (h.1 x hx).2⟩, h.2.1, ?_⟩
 ·obtain ⟨b, hb⟩ := Option.isSome_iff_exists.1 (h.1 x hx).1; rw [impl_sumOf.mono x k _ hb]; rfl
 ·rw [impl_ClassesOf.rows_up h]; exact fun x hx y hy => slices_Compare_int_int.mono x y k _ (h.2.2 x hx y hy)
def impl_ClassesOf.f (k : Nat) (a0 : Int) (es : List S57) : Option (List (List Int) × Bool) :=
 (impl_GraphOk.f a0 es).bind fun t => if t = true then (impl_GroupOrder.f k a0 es).bind fun c => if c ≤ 400 then (impl_reducedAt.f k a0 es 0).bind fun L => if impl_ClassesOf.ok k L then some (Cf.sortL (impl_ClassesOf.rows k L), true) else none else some ([], false) else some ([], false)
theorem impl_ClassesOf.mono : ∀ a0 a1 k, LeO (impl_ClassesOf.f k a0 a1) (impl_ClassesOf.f (k + 1) a0 a1) := by
 intro a0 a1 k; unfold impl_ClassesOf.f; (refine LeO.bind (LeO.refl _) fun t => LeO.ite (LeO.bind (impl_GroupOrder.mono _ _ k) fun c => LeO.ite (LeO.bind (impl_reducedAt.mono _ _ _ k) fun L => ?_) (LeO.refl _)) (LeO.refl _)); intro r h; (split at h); (case isFalse => cases h); rename_i hc; rw [if_pos (impl_ClassesOf.ok_up hc), impl_ClassesOf.rows_up hc]; exact h
theorem impl_ClassesOf.calls (k : Nat) (aD : Int) (aH : Option Addr) (aG : Nat) (aC : List S57) (r1 : List (List Int)) (r2 : Bool) (w : World) (hr0_1 : Kd.C k57 w aH aC.length aC) (hc0_1 : aC.length ≤ aG) (h : impl_ClassesOf.f k aD aC = some (r1, r2)) :
  Calls Try.prog 25 #[.agg #[.int .i64 aD, .slice aH aC.length aG]] w fun e w' => ∃ v0_ : Value, e = .returned (.tuple #[v0_, .bool r2]) ∧ Kd.S (Kd.slice 3 (Kd.int .i64)) 26 w' w.heap.size (fun _ => True) v0_ r1 ∧ Below w.heap.size w w' := by
 have hu25 := Try.underlying25; have HE := zK_ hr0_1; have HC := zK_ hc0_1; clear hr0_1 hc0_1; unfold impl_ClassesOf.f at h; replace h := zO_ h; obtain ⟨t, ht, h⟩ := h; have HTT := zK_ ht; clear ht
 cases t with
 | false =>
  rw [if_neg (by simp)] at h; obtain ⟨rfl, rfl⟩ := Prod.mk.inj (Option.some.inj h); clear h; go_enter Try.func25, Try.ntmps25; (go_wp2_with (first | ((with_reducible refine gate_dst (N := 1) rfl ?_); refine box_event ?hg (N := 1) ?hd (cs := #[.int .i64 aD, .slice aH aC.length aG]) (t := 25) ?hr ?_; (case hd => rfl); (case hg => rfl); (case hr => exact zz9); intro gg hg w1 hbox hb; have BG1 := zK_ hbox; have HB1 := zK_ hb; have hz0 : w1.cell? ⟨gg, 0, none⟩ = some (.int .i64 aD) := (blk_cell BG1.out 0).trans rfl; have hz1 : w1.cell? ⟨gg, 1, none⟩ = some (.slice aH aC.length aG) := (blk_cell BG1.out 1).trans rfl; clear hg hbox hb))); refine (impl_GraphOk.calls aD _ _ aC false _ (Kd.C_below HE.out HB1.out) HC.out HTT.out).mono ?_; rintro e w2 ⟨rfl, hb⟩; have BG2 := zK_ (blk_below BG1.out hb); have HB2 := zK_ (below_step HB1.out hb); clear hb hz0 hz1; go_wp2; (go_ret2); exact ⟨_, rfl, Kd.S_nil _ _ _ _ _, HB2.out⟩
 | true =>
  rw [if_pos rfl] at h; replace h := zO_ h; obtain ⟨c, hc, h⟩ := h; have HCT := zK_ hc; clear hc; by_cases hle : c ≤ 400; rotate_left
  ·rw [if_neg hle] at h; obtain ⟨rfl, rfl⟩ := Prod.mk.inj (Option.some.inj h); clear h; have d0 : decide (c > 400) = true := decide_eq_true (by omega); have d1 : decide (400 < c) = true := decide_eq_true (by omega); go_enter Try.func25, Try.ntmps25; (go_wp2_with (first | ((with_reducible refine gate_dst (N := 1) rfl ?_); refine box_event ?hg (N := 1) ?hd (cs := #[.int .i64 aD, .slice aH aC.length aG]) (t := 25) ?hr ?_; (case hd => rfl); (case hg => rfl); (case hr => exact zz9); intro gg hg w1 hbox hb; have BG1 := zK_ hbox; have HB1 := zK_ hb; have hz0 : w1.cell? ⟨gg, 0, none⟩ = some (.int .i64 aD) := (blk_cell BG1.out 0).trans rfl; have hz1 : w1.cell? ⟨gg, 1, none⟩ = some (.slice aH aC.length aG) := (blk_cell BG1.out 1).trans rfl; clear hg hbox hb))); refine (impl_GraphOk.calls aD _ _ aC true _ (Kd.C_below HE.out HB1.out) HC.out HTT.out).mono ?_; rintro e w2 ⟨rfl, hb⟩; have BG2 := zK_ (blk_below BG1.out hb); have HB2 := zK_ (below_step HB1.out hb); clear hb hz0 hz1; have hz0 : w2.cell? ⟨gg, 0, none⟩ = some (.int .i64 aD) := (blk_cell BG2.out 0).trans rfl; have hz1 : w2.cell? ⟨gg, 1, none⟩ = some (.slice aH aC.length aG) := (blk_cell BG2.out 1).trans rfl; (go_wp2_with fail); refine (impl_GroupOrder.calls k aD _ _ aC c _ (Kd.C_below HE.out HB2.out) HC.out HCT.out).mono ?_; rintro e w3 ⟨rfl, hb⟩; have BG3 := zK_ (blk_below BG2.out hb); have HB3 := zK_ (below_step HB2.out hb); clear hb hz0 hz1 BG2 BG1; go_wp2; (go_ret2); exact ⟨_, rfl, Kd.S_nil _ _ _ _ _, HB3.out⟩
  rw [if_pos hle] at h; replace h := zO_ h; obtain ⟨L, hL, h⟩ := h; (split at h); (case isFalse => cases h); rename_i hok; obtain ⟨rfl, rfl⟩ := Prod.mk.inj (Option.some.inj h); clear h; obtain ⟨hro, hLl, hcmp⟩ := hok; have HLL := zK_ hL; have HRO := zK_ hro; have HLn := zK_ hLl; have HCM := zK_ hcmp; (have hnb : (L.length : Int) ≤ 1000000 := by omega); have d0 : decide (c > 400) = false := decide_eq_false (by omega); have d1 : decide (400 < c) = false := decide_eq_false (by omega); clear hro hLl hcmp hL hle; go_enter Try.func25, Try.ntmps25; (go_wp2_with (first | ((with_reducible refine gate_dst (N := 1) rfl ?_); refine box_event ?hg (N := 1) ?hd (cs := #[.int .i64 aD, .slice aH aC.length aG]) (t := 25) ?hr ?_; (case hd => rfl); (case hg => rfl); (case hr => exact zz9); intro gg hg w1 hbox hb; have BG1 := zK_ hbox; have HB1 := zK_ hb; have hz0 : w1.cell? ⟨gg, 0, none⟩ = some (.int .i64 aD) := (blk_cell BG1.out 0).trans rfl; have hz1 : w1.cell? ⟨gg, 1, none⟩ = some (.slice aH aC.length aG) := (blk_cell BG1.out 1).trans rfl; clear hg hbox hb))); refine (impl_GraphOk.calls aD _ _ aC true _ (Kd.C_below HE.out HB1.out) HC.out HTT.out).mono ?_; rintro e w2 ⟨rfl, hb⟩; have BG2 := zK_ (blk_below BG1.out hb); have HB2 := zK_ (below_step HB1.out hb); clear hb hz0 hz1; have hz0 : w2.cell? ⟨gg, 0, none⟩ = some (.int .i64 aD) := (blk_cell BG2.out 0).trans rfl; have hz1 : w2.cell? ⟨gg, 1, none⟩ = some (.slice aH aC.length aG) := (blk_cell BG2.out 1).trans rfl; (go_wp2_with fail); refine (impl_GroupOrder.calls k aD _ _ aC c _ (Kd.C_below HE.out HB2.out) HC.out HCT.out).mono ?_; rintro e w3 ⟨rfl, hb⟩; have BG3 := zK_ (blk_below BG2.out hb); have HB3 := zK_ (below_step HB2.out hb); clear hb hz0 hz1 BG2 BG1; have hz0 : w3.cell? ⟨gg, 0, none⟩ = some (.int .i64 aD) := (blk_cell BG3.out 0).trans rfl; have hz1 : w3.cell? ⟨gg, 1, none⟩ = some (.slice aH aC.length aG) := (blk_cell BG3.out 1).trans rfl; (go_wp2_with fail); refine (impl_reducedAt.calls k aD _ _ aC 0 L _ (Kd.C_below HE.out HB3.out) HC.out HLL.out).mono ?_; rintro e w4 ⟨v4, rfl, hS, hb⟩; have HB4 := zK_ (below_step HB3.out hb); have hS4 := Kd.S_lower hS HB3.out.size; obtain ⟨A, cA, eA⟩ := Kd.S_slice hS4; subst eA; have HS4 := zK_ hS4; clear hS hb hz0 hz1 hS4 BG3; (try go_wp2); (go_loopw [19] (fun v19 wr => ∃ i : Nat, v19 = .int .i64 (i : Int) ∧ Aside0 (i ≤ L.length) ∧ Aside0 (Below w.heap.size w wr) ∧ Aside0 (Kd.S (Kd.slice 3 (Kd.int .i64)) 26 wr w.heap.size (fun _ => True) (.slice A L.length cA) (impl_ClassesOf.up (impl_ClassesOf.row k) L i))) (fun v _ => L.length - (intOf v).toNat)); case atStart => exact ⟨0, rfl, ⟨Nat.zero_le _⟩, HB4, HS4⟩
  case round =>
   clear HS4 HB4; obtain ⟨i, rfl, HI, HBr, HS⟩ := hrel; by_cases hlt : i < L.length; rotate_left
   ·have c0_ : decide ((i : Int) < (L.length : Int)) = false := decide_eq_false (by omega); have c1_ : decide (i < L.length) = false := decide_eq_false hlt; (have hi : i = L.length := by have := HI.out; omega); subst hi; clear hlt; (have eU : impl_ClassesOf.up (impl_ClassesOf.row k) L L.length = impl_ClassesOf.rows k L := by unfold impl_ClassesOf.up impl_ClassesOf.rows; rw [List.take_length, List.drop_length, List.append_nil]); have hS := HS.out; rw [eU] at hS; have HS8 := zK_ hS; clear hS HS eU; (go_wp2_with fail); refine (slices_SortFunc_int_int.calls k (impl_ClassesOf.rows k L) w.heap.size (fun _ => True) _ _ HS8.out (by unfold impl_ClassesOf.rows; rw [List.length_map]; have := HLn.out; omega) HCM.out).mono ?_; rintro e w9 ⟨rfl, hS9, hb⟩; have HS9 := zK_ hS9; have HB9 := zK_ (HBr.out.trans hb); clear hS9 hb; go_wp2; (go_ret2); exact ⟨_, rfl, HS9.out, HB9.out⟩
   have c0_ : decide ((i : Int) < (L.length : Int)) = true := decide_eq_true (by omega); have c1_ : decide (i < L.length) = true := decide_eq_true hlt; (have p1 : (0 : Int) ≤ (i : Int) := by omega); (have p2 : (i : Int) < (L.length : Int) := by omega); (have hib : (i : Int) ≤ 1000000 := by omega); have hS := HS.out; rw [← impl_ClassesOf.up_len (impl_ClassesOf.row k) L i] at hS; obtain ⟨g, cap, eg, _⟩ := Kd.S_form hS (by rw [impl_ClassesOf.up_len]; omega); injection eg with eA _ eC; subst eA; subst eC; rw [impl_ClassesOf.up_len (impl_ClassesOf.row k) L i] at hS; obtain ⟨_, cc, _, hM, hcell, _, _⟩ := Kd.S_borrow hS ([] : List Int) (i : Int) p1 p2; obtain ⟨vx, hvx, hRx⟩ := hM; subst hvx; replace hcell := hcell 0 vx rfl; rw [Int.toNat_natCast, impl_ClassesOf.up_get _ hlt] at hRx; obtain ⟨hsm, hx0, hxl⟩ := HRO.out _ (List.getElem_mem hlt); have hset := impl_ClassesOf.up_set (impl_ClassesOf.row k) hlt; have hget := impl_ClassesOf.up_get (impl_ClassesOf.row k) hlt; generalize L[i] = x at hRx hsm hx0 hxl hset hget; obtain ⟨s, hs⟩ := Option.isSome_iff_exists.1 hsm; (have hrow : impl_ClassesOf.row k x = x.set 0 (wrap64 (-s)) := by unfold impl_ClassesOf.row; rw [hs]; rfl); rw [hrow] at hset; obtain ⟨gr, cr, er, _⟩ := Kd.R_form hRx hx0; subst er; rw [Int.toNat_natCast, show i * (Kd.slice 3 (Kd.int .i64)).sz + 0 = i from Nat.mul_one i, add_plain] at hcell; have HRi := zK_ (Kd.R_reads' hRx); have HSM := zK_ hs; have HSET := zK_ hset; have HGET := zK_ hget; have HLT := zK_ hlt; have HX0 := zK_ hx0; have HCELL := zK_ hcell; have HS_ := zK_ hS; clear hS hRx hs hset hget hlt hx0 hrow hsm; (go_wp2_with fail); refine (impl_sumOf.calls k _ _ x s _ HRi.out.2.2 HRi.out.2.1 HSM.out).mono ?_; rintro e w6 ⟨rfl, hd⟩; (have hcell6 : w6.cell? ⟨g, i, none⟩ = some (.slice (some ⟨gr, 0, none⟩) x.length cr) := by obtain ⟨⟨n, rfl⟩⟩ := hd; exact HCELL.out); have hS := Kd.S_below HS_.out (Drawn0.below hd); have HB6 := zK_ (below_step HBr.out (Drawn0.below hd)); clear hcell hd; obtain ⟨oki, cc6, _, hM6, hc6, hoki, hback⟩ := Kd.S_borrow hS ([] : List Int) (i : Int) p1 p2; obtain ⟨vx6, hvx6, hRx⟩ := hM6; subst hvx6; replace hc6 := hc6 0 vx6 rfl; rw [Int.toNat_natCast, HGET.out] at hRx; rw [Int.toNat_natCast, show i * (Kd.slice 3 (Kd.int .i64)).sz + 0 = i from Nat.mul_one i, add_plain] at hc6; obtain rfl := Option.some.inj (hc6.symm.trans hcell6); rw [Int.toNat_natCast] at hback; (have q1 : (0 : Int) ≤ (0 : Int) := by omega); (have hxq : (0 : Int) < (x.length : Int) := by have := HX0.out; omega); obtain ⟨hmv, hmf⟩ := Kd.R_celln 0 hRx (0 : Int) q1 hxq; have hput := Kd.R_putg hRx (0 : Int) (wrap64 (-s)); rw [show (0 : Int).toNat = 0 from rfl] at hmv hmf hput; have hokr : oki gr := hRx.1 gr rfl; have HBK := zK_ (hback (w1 := w6.setCell ⟨gr, 0, none⟩ (.int .i64 (wrap64 (-s)))) (x' := x.set 0 (wrap64 (-s))) hput.2 (fun k_ e => by injection e with e; rw [← e]; exact hokr) ⟨_, rfl, by have h_ := hput.1; exact h_⟩); have HGR := zK_ (Kd.R_base hRx gr rfl); clear hback hput hRx hS hoki hokr hc6 hcell6; go_wp2; go_roundw
   case rel =>
    refine ⟨i + 1, by go_num, ⟨HLT.out⟩, ⟨below_set HB6.out HGR.out⟩, ⟨?_⟩⟩; rw [← HSET.out]; exact HBK.out
   case measure =>
    have := HLT.out; (simp [intOf]); omega
def laws_FnExactClassesOf.T10 : Bool × List (List Nat × List Nat) := (true, [([], []), ([], []), ([1], [1]), ([0, 2, 2], [0, 2]), ([3], [3])])
def laws_FnExactClassesOf.B10 : List Nat := [0, 0, 2, 7, 15]
theorem laws_FnExactClassesOf.tab10 : rtab .any (opsOf Try.f5 10) = laws_FnExactClassesOf.T10 := by kernel_rfl
theorem laws_FnExactClassesOf.bits10 : waitsOk laws_FnExactClassesOf.T10.2 laws_FnExactClassesOf.B10 = true := by kernel_rfl
def laws_FnExactClassesOf.tail2 (k : Nat) (a0 : Int) (l0 : List S101) (W : List (List Int) × Bool) (m : List (List Int) × Int) : Option Bool :=
 (laws_heldIntSS.f k m.1 1).bind fun q => if q < 0 then none else if q = m.2 then (laws_toGraph.f k a0 l0).bind fun a3 => (impl_ClassesOf.f k a3.1 a3.2).bind fun H => (laws_eqIntSS.f k H.1 W.1).bind fun e4 => if e4 = true then (if H.2 = W.2 then (laws_heldIntSS.f k m.1 1).bind fun q2 => (if q2 < 0 then none else if q2 = m.2 then some true else none) else none) else none else none
def laws_FnExactClassesOf.tail (k : Nat) (a0 : Int) (l0 : List S101) (W : List (List Int) × Bool) (x0 : Int × List S57) (G : List (List Int) × Bool) : Option Bool :=
 (laws_eqIntSS.f k G.1 W.1).bind fun e1 => if e1 = true then (if G.2 = W.2 then (laws_toGraph.f k a0 l0).bind fun a2 => (laws_eqGraph.f k x0.1 x0.2 a2.1 a2.2).bind fun e2 => (if e2 = true then (laws_markGraph.f k x0.1 x0.2 1).bind fun km => (if km.1 < 0 then none else (laws_eqIntSS.f k G.1 W.1).bind fun e3 => (if e3 = true then (laws_markIntSS.fR k G.1 1).bind fun m => laws_FnExactClassesOf.tail2 k a0 l0 W m else none)) else none) else none) else none
def laws_FnExactClassesOf.f (k : Nat) (a0 : Int) (l0 : List S101) : Option Bool :=
 (laws_szGraph.f a0 l0 1048576).bind fun t => if t < 0 then some true else (laws_toGraph.f k a0 l0).bind fun a => (spec_ClassesOf.f k a.1 a.2).bind fun W => (laws_toGraph.f k a0 l0).bind fun x0 => (impl_ClassesOf.f k x0.1 x0.2).bind fun G => laws_FnExactClassesOf.tail k a0 l0 W x0 G
theorem laws_FnExactClassesOf.mono : ∀ a0 a1 k, LeO (laws_FnExactClassesOf.f k a0 a1) (laws_FnExactClassesOf.f (k + 1) a0 a1) := by
 intro a0 a1 k; unfold laws_FnExactClassesOf.f laws_FnExactClassesOf.tail laws_FnExactClassesOf.tail2; repeat (first | exact LeO.refl _ | refine LeO.bind (LeO.refl (laws_szGraph.f _ _ _)) fun _ => ?_ | refine LeO.bind (laws_toGraph.mono _ _ k) fun _ => ?_ | refine LeO.bind (spec_ClassesOf.mono _ _ k) fun _ => ?_ | refine LeO.bind (impl_ClassesOf.mono _ _ k) fun _ => ?_ | refine LeO.bind (laws_eqIntSS.mono _ _ k) fun _ => ?_ | refine LeO.bind (laws_eqGraph.mono _ _ _ _ k) fun _ => ?_ | refine LeO.bind (laws_markGraph.mono _ _ _ k) fun _ => ?_ | refine LeO.bind (laws_markIntSS.monoR _ _ k) fun _ => ?_ | refine LeO.bind (laws_heldIntSS.mono _ _ k) fun _ => ?_ | refine LeO.ite ?_ ?_)
theorem laws_FnExactClassesOf.calls (k : Nat) (aD : Int) (aH : Option Addr) (aG : Nat) (aC : List S101) (r : Bool) (w : World) (hr0_1 : Kd.C k101 w aH aC.length aC) (hc0_1 : aC.length ≤ aG) (h : laws_FnExactClassesOf.f k aD aC = some r) :
  Calls Try.prog 5 #[.agg #[.int .i64 aD, .slice aH aC.length aG]] w fun e w' => e = .returned (.bool r) ∧ Below w.heap.size w w' := by
 have hu1 := Try.underlying41; have hu2 := Try.underlying25; have HR := zK_ hr0_1; have HC := zK_ hc0_1; clear hr0_1 hc0_1; unfold laws_FnExactClassesOf.f at h; replace h := zO_ h; obtain ⟨t, ht, h⟩ := h; have HT := zK_ ht; clear ht; by_cases c1 : t < 0
 ·rw [if_pos c1] at h; obtain rfl := Option.some.inj h; have d1 : decide (t < 0) = true := decide_eq_true c1; go_enter Try.func5, Try.ntmps5; (go_wp2_with (first | ((with_reducible refine gate_dst (N := 1) rfl ?_); refine box_event ?hg (N := 1) ?hd (cs := #[.int .i64 aD, .slice aH aC.length aG]) (t := 41) ?hr ?_; (case hd => rfl); (case hg => rfl); (case hr => exact zz9); intro ga hg w1 hbox hb; have BA1 := zK_ hbox; have HGA := zK_ hg; have HB1 := zK_ hb; have hz0 : w1.cell? ⟨ga, 0, none⟩ = some (.int .i64 aD) := (blk_cell BA1.out 0).trans rfl; have hz1 : w1.cell? ⟨ga, 1, none⟩ = some (.slice aH aC.length aG) := (blk_cell BA1.out 1).trans rfl; clear hg hbox hb))); refine (laws_szGraph.calls aD _ _ aC 1048576 t _ (Kd.C_below HR.out HB1.out) HC.out HT.out).mono ?_; rintro e w2 ⟨rfl, hb⟩; have BA2 := zK_ (blk_below BA1.out hb); have HB2 := zK_ (below_step HB1.out hb); clear hb hz0 hz1 BA1; go_wp2; go_ret; exact ⟨rfl, HB2.out⟩
 rw [if_neg c1] at h; have d1 : decide (t < 0) = false := decide_eq_false c1; clear c1; replace h := zO_ h; obtain ⟨⟨an, ae⟩, h_a, h⟩ := h; replace h := zO_ h; obtain ⟨⟨W, wb⟩, h_W, h⟩ := h; replace h := zO_ h; obtain ⟨⟨xn, xe⟩, h_x, h⟩ := h; replace h := zO_ h; obtain ⟨⟨G, gb⟩, h_G, h⟩ := h; unfold laws_FnExactClassesOf.tail at h; simp only at h; replace h := zO_ h; obtain ⟨e1, h_e1, h⟩ := h; (split at h); (case isFalse => cases h); rename_i t1; subst t1; (split at h); (case isFalse => cases h); rename_i g1; replace h := zO_ h; obtain ⟨⟨bn, be⟩, h_b, h⟩ := h; replace h := zO_ h; obtain ⟨e2, h_e2, h⟩ := h; (split at h); (case isFalse => cases h); rename_i t1; subst t1; replace h := zO_ h; obtain ⟨⟨km, ke⟩, h_k, h⟩ := h; (split at h); (case isTrue => cases h); rename_i n1; replace h := zO_ h; obtain ⟨e3, h_e3, h⟩ := h; (split at h); (case isFalse => cases h); rename_i t1; subst t1; replace h := zO_ h; obtain ⟨⟨M, m⟩, h_m, h⟩ := h; unfold laws_FnExactClassesOf.tail2 at h; simp only at h; replace h := zO_ h; obtain ⟨q, h_q, h⟩ := h; (split at h); (case isTrue => cases h); rename_i n2; (split at h); (case isFalse => cases h); rename_i t2; replace h := zO_ h; obtain ⟨⟨cn, ce⟩, h_c, h⟩ := h; replace h := zO_ h; obtain ⟨⟨H, hb2⟩, h_H, h⟩ := h; replace h := zO_ h; obtain ⟨e4, h_e4, h⟩ := h; (split at h); (case isFalse => cases h); rename_i t1; subst t1; (split at h); (case isFalse => cases h); rename_i g2; replace h := zO_ h; obtain ⟨q2, h_q2, h⟩ := h; (split at h); (case isTrue => cases h); rename_i n3; (split at h); (case isFalse => cases h); rename_i t3; obtain rfl := Option.some.inj h; clear h; simp only at h_a h_W h_x h_G h_e1 h_b h_e2 h_k h_e3 h_m h_q h_c h_H h_e4 h_q2 g1 g2 n1 t2 t3; subst g1; subst g2; have Ha_ := zK_ h_a; have HW_ := zK_ h_W; have Hx_ := zK_ h_x; have HG_ := zK_ h_G; have He1_ := zK_ h_e1; have Hb_ := zK_ h_b; have He2_ := zK_ h_e2; have Hk_ := zK_ h_k; have He3_ := zK_ h_e3; have Hm_ := zK_ h_m; have Hq_ := zK_ h_q; have Hc_ := zK_ h_c; have HH_ := zK_ h_H; have He4_ := zK_ h_e4; have Hq2_ := zK_ h_q2; clear h_a h_W h_x h_G h_e1 h_b h_e2 h_k h_e3 h_m h_q h_c h_H h_e4 h_q2; have d2 : decide (km < 0) = false := decide_eq_false n1; have d3 : decide (q < 0) = false := decide_eq_false n2; have d4 : (q != m) = false := bne_eq_false_iff_eq.mpr t2; have d5 : decide (q2 < 0) = false := decide_eq_false n3; have d6 : (q2 != m) = false := bne_eq_false_iff_eq.mpr t3; clear n1 n2 n3 t2 t3; go_enter Try.func5, Try.ntmps5; (go_wp2_with (first | ((with_reducible refine gate_dst (N := 1) rfl ?_); refine box_event ?hg (N := 1) ?hd (cs := #[.int .i64 aD, .slice aH aC.length aG]) (t := 41) ?hr ?_; (case hd => rfl); (case hg => rfl); (case hr => exact zz9); intro ga hg w1 hbox hb; have BA1 := zK_ hbox; have HGA := zK_ hg; have HB1 := zK_ hb; have hz0 : w1.cell? ⟨ga, 0, none⟩ = some (.int .i64 aD) := (blk_cell BA1.out 0).trans rfl; have hz1 : w1.cell? ⟨ga, 1, none⟩ = some (.slice aH aC.length aG) := (blk_cell BA1.out 1).trans rfl; clear hg hbox hb))); refine (laws_szGraph.calls aD _ _ aC 1048576 t _ (Kd.C_below HR.out HB1.out) HC.out HT.out).mono ?_; rintro e w2 ⟨rfl, hb⟩; have BA2 := zK_ (blk_below BA1.out hb); have HB2 := zK_ (below_step HB1.out hb); clear hb hz0 hz1 BA1; have hz0 : w2.cell? ⟨ga, 0, none⟩ = some (.int .i64 aD) := (blk_cell BA2.out 0).trans rfl; have hz1 : w2.cell? ⟨ga, 1, none⟩ = some (.slice aH aC.length aG) := (blk_cell BA2.out 1).trans rfl; (go_wp2_with fail); refine (laws_toGraph.calls k aD _ _ aC an ae _ (Kd.C_below HR.out HB2.out) HC.out Ha_.out).mono ?_; rintro e w3 ⟨v3, rfl, hR, hb⟩; obtain ⟨Aa, ca, ea⟩ := Kd.R_slice hR; subst ea; have HA3 := zK_ (Kd.R_reads' hR); have BA3 := zK_ (blk_below BA2.out hb); have HB3 := zK_ (below_step HB2.out hb); clear hR hb hz0 hz1 BA2; (go_wp2_with fail); refine (spec_ClassesOf.calls k an _ _ ae W _ _ HA3.out.2.2 HA3.out.2.1 HW_.out).mono ?_; rintro e w4 ⟨v4, rfl, hN, hb⟩; obtain ⟨Aw, cw, ew⟩ := Kd.S_slice hN; subst ew; have HW4 := zK_ (Kd.N_mono (Kd.N_bound (Kd.S_N hN)) (ok' := fun k_ => k_ < w4.heap.size) fun k_ hk => hk.2); have HWB := zK_ hb.size; have BA4 := zK_ (blk_below BA3.out hb); have HB4 := zK_ (below_step HB3.out hb); have HGA4 := zK_ (show ga < w4.heap.size from blk_lt BA4.out); clear hN hb BA3 HA3; have hz0 : w4.cell? ⟨ga, 0, none⟩ = some (.int .i64 aD) := (blk_cell BA4.out 0).trans rfl; have hz1 : w4.cell? ⟨ga, 1, none⟩ = some (.slice aH aC.length aG) := (blk_cell BA4.out 1).trans rfl; (go_wp2_with fail); refine (laws_toGraph.calls k aD _ _ aC xn xe _ (Kd.C_below HR.out HB4.out) HC.out Hx_.out).mono ?_; rintro e w5 ⟨v5, rfl, hR, hb⟩; obtain ⟨Ax, cx, ex⟩ := Kd.R_slice hR; subst ex; have HX5 := zK_ (Kd.R_mono (Kd.R_bound hR) (ok' := fun k_ => w4.heap.size ≤ k_ ∧ k_ < w5.heap.size) fun k_ hk => ⟨hk.2.1, hk.2.2.1⟩); have HW5 := zK_ (Kd.N_below HW4.out hb); have HZ5 := zK_ hb.size; have BA5 := zK_ (blk_below BA4.out hb); have HB5 := zK_ (below_step HB4.out hb); clear hR hb hz0 hz1 BA4 HW4; (go_wp2_with (first | ((with_reducible refine gate_dst (N := 6) rfl ?_); refine box_event ?hg (N := 6) ?hd (cs := #[.int .i64 0, .slice none 0 0]) (t := 25) ?hr ?_; (case hd => rfl); (case hg => rfl); (case hr => exact zz9); intro gx hg w6 hbox hb; have HGX := zK_ hg; have BX6 := zK_ hbox; have BA6 := zK_ (blk_below BA5.out hb); have HB6 := zK_ (below_step HB5.out hb); have HX6 := zK_ (Kd.R_below HX5.out hb); have HW6 := zK_ (Kd.N_below HW5.out hb); have hy0 : w6.cell? ⟨gx, 0, none⟩ = some (.int .i64 0) := (blk_cell BX6.out 0).trans rfl; have hy1 : w6.cell? ⟨gx, 1, none⟩ = some (.slice none 0 0) := (blk_cell BX6.out 1).trans rfl; have hf0 := blk_frozen BX6.out 0; have hf1 := blk_frozen BX6.out 1; clear hg hbox hb BA5 HX5 HW5))); (have hbb : ∀ b : Bool, (b != b) = false := by intro b; cases b <;> rfl); have HGAX := zK_ (show ga < w4.heap.size ∧ w4.heap.size ≤ w5.heap.size ∧ gx = w5.heap.size ∧ w.heap.size ≤ gx from ⟨by exact HGA4.out, HZ5.out, HGX.out, by have := HGX.out; have := HB5.out.size; omega⟩); generalize hw : ((w6.setCell ⟨gx, 0, none⟩ (.int .i64 xn)).setCell ⟨gx, 1, none⟩ (.slice Ax xe.length cx)) = w7; have BX7 := zK_ (show w7.heap[gx]? = some (.cells #[.int .i64 xn, .slice Ax xe.length cx] 25 (0, 0)) from by rw [← hw]; exact blk_set (blk_set BX6.out 0 _) 1 _); have BA7 := zK_ (show w7.heap[ga]? = some (.cells #[.int .i64 aD, .slice aH aC.length aG] 41 (0, 0)) from by rw [← hw]; exact blk_far (blk_far BA6.out (by have := HGAX.out; show ga ≠ gx; omega) _) (by have := HGAX.out; show ga ≠ gx; omega) _); have HB7 := zK_ (show Below w.heap.size w w7 from by rw [← hw]; exact below_set (below_set HB6.out HGAX.out.2.2.2) HGAX.out.2.2.2); have HX7 := zK_ (show Kd.R k57 57 w7 w4.heap.size (fun k_ => w4.heap.size ≤ k_ ∧ k_ < w5.heap.size) (.slice Ax xe.length cx) xe from by rw [← hw]; exact Kd.R_far (p := ⟨gx, 1, none⟩) (Kd.R_far (p := ⟨gx, 0, none⟩) HX6.out (fun k_ hk => by have h2 := hk.2; have := HGAX.out; show k_ ≠ gx; omega) _) (fun k_ hk => by have h2 := hk.2; have := HGAX.out; show k_ ≠ gx; omega) _); have HW7 := zK_ (show Kd.N (Kd.slice 3 (Kd.int .i64)) 26 w7 w3.heap.size (fun k_ => k_ < w4.heap.size) (.slice Aw W.length cw) W from by rw [← hw]; exact Kd.N_far (p := ⟨gx, 1, none⟩) (Kd.N_far (p := ⟨gx, 0, none⟩) HW6.out (fun k_ hk => by have h2 : k_ < w4.heap.size := hk; have := HGAX.out; show k_ ≠ gx; omega) _) (fun k_ hk => by have h2 : k_ < w4.heap.size := hk; have := HGAX.out; show k_ ≠ gx; omega) _); have HZ7 := zK_ (show w5.heap.size < w7.heap.size from by have := blk_lt BX7.out; have := HGAX.out; omega); clear hw BX6 BA6 HB6 HX6 HW6 hy0 hy1 hf0 hf1; refine (impl_ClassesOf.calls k xn _ _ xe G _ _ (Kd.R_reads' HX7.out).2.2 (Kd.R_reads' HX7.out).2.1 HG_.out).mono ?_; rintro e w8 ⟨v8, rfl, hS, hb⟩; obtain ⟨Ag, cg, eg⟩ := Kd.S_slice hS; subst eg; have HG8 := zK_ (Kd.S_mono (Kd.S_bound hS) (ok' := fun k_ => w7.heap.size ≤ k_ ∧ k_ < w8.heap.size) fun k_ hk => ⟨hk.2.1, hk.2.2.1⟩); have BX8 := zK_ (blk_below BX7.out hb); have BA8 := zK_ (blk_below BA7.out hb); have HX8 := zK_ (Kd.R_below HX7.out hb); have HW8 := zK_ (Kd.N_below HW7.out hb); have HB8 := zK_ (below_step HB7.out hb); clear hS hb BX7 BA7 HX7 HW7; (go_wp2_with fail); refine (laws_eqIntSS.calls k _ _ G _ _ W true _ (Kd.S_reads' HG8.out).2.2 (Kd.S_reads' HG8.out).2.1 (Kd.N_reads' HW8.out).2.2 (Kd.N_reads' HW8.out).2.1 He1_.out).mono ?_; rintro e w9 ⟨rfl, hd⟩; have hb := Drawn0.below hd; have BX9 := zK_ (blk_below BX8.out hb); have BA9 := zK_ (blk_below BA8.out hb); have HX9 := zK_ (Kd.R_below HX8.out hb); have HW9 := zK_ (Kd.N_below HW8.out hb); have HG9 := zK_ (Kd.S_below HG8.out hb); have HB9 := zK_ (below_step HB8.out hb); clear hd hb BX8 BA8 HX8 HW8 HG8; (try go_wp2); refine start_ (n := 5) (S := fun w' => w'.cell? ⟨gx, 0, none⟩ = some (.int .i64 xn) ∧ w'.cell? ⟨gx, 1, none⟩ = some (.slice Ax xe.length cx) ∧ w'.cell? ⟨ga, 0, none⟩ = some (.int .i64 aD) ∧ w'.cell? ⟨ga, 1, none⟩ = some (.slice aH aC.length aG)) (ds := []) (zM 5 0) (by kernel_rfl) rfl rfl ⟨(blk_cell BX9.out 0).trans rfl, (blk_cell BX9.out 1).trans rfl, (blk_cell BA9.out 0).trans rfl, (blk_cell BA9.out 1).trans rfl⟩ (fun hHeld => ?_); refine with_tabW laws_FnExactClassesOf.tab10 laws_FnExactClassesOf.bits10 (fun HT_ HW_ => ?_); have hb : Below w9.heap.size w9 w9.drew := below_drew (Below.refl _ _); have BX10 := zK_ (blk_below BX9.out hb); have BA10 := zK_ (blk_below BA9.out hb); have HX10 := zK_ (Kd.R_below HX9.out hb); have HW10 := zK_ (Kd.N_below HW9.out hb); have HG10 := zK_ (Kd.S_below HG9.out hb); have HB10 := zK_ (below_step HB9.out hb); clear hb BX9 BA9 HX9 HW9 HG9; generalize w9.drew = w10 at BX10 BA10 HX10 HW10 HG10 HB10 hHeld ⊢; refine take_ (i := 0) (N := some 41) (v := ?_) (a' := ?_) (zM 5 1) rfl rfl (take_ofW HT_.out HW_.out (by kernel_rfl)) (fun _ _ _ h => h) (Or.inl ⟨by rfl, ?_⟩) hHeld ?_ ?_; rotate_left
 ·rintro w' ⟨s0, s1, s2, s3⟩; exact zzT
 rotate_left
 ·exact zzS
 refine take_ (i := 1) (N := some 42) (v := ?_) (a' := ?_) (zM 5 3) rfl rfl (take_ofW HT_.out HW_.out (by kernel_rfl)) (fun _ _ _ h => h) (Or.inl ⟨by rfl, ?_⟩) hHeld ?_ ?_; rotate_left
 ·rintro w' ⟨s0, s1, s2, s3⟩; exact zzT
 rotate_left
 ·exact zzS
 refine one_ (i := 2) (N := some 43) (zM 5 7) rfl rfl (one_of HT_.out (by kernel_rfl)) (by decide) (fun K hK => ?_); refine goes_ Try.func18 (by kernel_rfl) rfl #[.agg #[.int .i64 aD, .slice aH aC.length aG]] (by rfl) rfl rfl zz22 ?_; refine (laws_toGraph.calls k aD _ _ aC bn be _ (Kd.C_below HR.out HB10.out) HC.out Hb_.out).mono ?_; rintro e w11 ⟨v11, rfl, hR, hb⟩; obtain ⟨Ab, cb, eb⟩ := Kd.R_slice hR; subst eb; have HBb := zK_ (Kd.R_reads' hR); have BX11 := zK_ (blk_below BX10.out hb); have BA11 := zK_ (blk_below BA10.out hb); have HX11 := zK_ (Kd.R_below HX10.out hb); have HW11 := zK_ (Kd.N_below HW10.out hb); have HG11 := zK_ (Kd.S_below HG10.out hb); have HB11 := zK_ (below_step HB10.out hb); clear hR hb BX10 BA10 HX10 HW10 HG10; refine ⟨_, rfl, ?_⟩; refine hK.out _ _ ⟨(blk_cell BX11.out 0).trans rfl, (blk_cell BX11.out 1).trans rfl, (blk_cell BA11.out 0).trans rfl, (blk_cell BA11.out 1).trans rfl⟩ (fun hHeld => ?_); clear hK K; refine norm_ (a' := ?_) ?_ ?_; rotate_left
 ·show Act.put _ (some 43) _ = _; exact zzS
 refine one_ (i := 3) (N := some 44) (zM 5 15) rfl rfl (one_of HT_.out (by kernel_rfl)) (by decide) (fun K hK => ?_); refine goes_ Try.func20 (by kernel_rfl) rfl #[.agg #[.int .i64 xn, .slice Ax xe.length cx], .agg #[.int .i64 bn, .slice Ab be.length cb]] (by rfl) rfl rfl zz22 ?_; refine (laws_eqGraph.calls k xn _ _ xe bn _ _ be true _ (Kd.R_reads' HX11.out).2.2 (Kd.R_reads' HX11.out).2.1 HBb.out.2.2 HBb.out.2.1 He2_.out).mono ?_; rintro e w12 ⟨rfl, hb⟩; have BX12 := zK_ (blk_below BX11.out hb); have BA12 := zK_ (blk_below BA11.out hb); have HX12 := zK_ (Kd.R_below HX11.out hb); have HW12 := zK_ (Kd.N_below HW11.out hb); have HG12 := zK_ (Kd.S_below HG11.out hb); have HB12 := zK_ (below_step HB11.out hb); clear hb BX11 BA11 HX11 HW11 HG11 HBb; refine ⟨_, rfl, ?_⟩; refine hK.out _ _ ⟨(blk_cell BX12.out 0).trans rfl, (blk_cell BX12.out 1).trans rfl, (blk_cell BA12.out 0).trans rfl, (blk_cell BA12.out 1).trans rfl⟩ (fun hHeld => ?_); clear hK K; refine norm_ (a' := ?_) ?_ ?_; rotate_left
 ·show Act.put _ (some 44) _ = _; exact zzS
 refine zQ 4 45 (zM 5 31) ?_
 refine done_ (done_of HT_.out (by kernel_rfl)) ?_; have hx0 : w12.cell? ⟨gx, 0, none⟩ = some (.int .i64 xn) := (blk_cell BX12.out 0).trans rfl; have hx1 : w12.cell? ⟨gx, 1, none⟩ = some (.slice Ax xe.length cx) := (blk_cell BX12.out 1).trans rfl; (go_wp2_with fail); refine (laws_markGraph.calls k xn (fun k_ => w4.heap.size ≤ k_ ∧ k_ < w5.heap.size) _ xe 1 km ke w _ HB12.out (Kd.R_lower HX12.out HB4.out.size) Hk_.out).mono ?_; rintro e w13 ⟨rfl, _, hb, hk⟩; have HW13 := zK_ (Kd.N_step HW12.out fun k_ ho hlt => hk.2 k_ hlt fun h => by have h2 : k_ < w4.heap.size := ho; have := h.1; omega); have HG13 := zK_ (Kd.S_step HG12.out fun k_ ho hlt => hk.2 k_ hlt fun h => by have := ho.1; have := h.2; have := HZ7.out; omega); have BA13 := zK_ (blk_kept BA12.out hk fun h => by have := h.1; have := HGAX.out.1; omega); have HB13 := zK_ hb; clear hb hk hx0 hx1 BX12 BA12 HX12 HW12 HG12; (go_wp2_with fail); refine (laws_eqIntSS.calls k _ _ G _ _ W true _ (Kd.S_reads' HG13.out).2.2 (Kd.S_reads' HG13.out).2.1 (Kd.N_reads' HW13.out).2.2 (Kd.N_reads' HW13.out).2.1 He3_.out).mono ?_; rintro e w14 ⟨rfl, hd⟩; have hb := Drawn0.below hd; have BA14 := zK_ (blk_below BA13.out hb); have HW14 := zK_ (Kd.N_below HW13.out hb); have HG14 := zK_ (Kd.S_below HG13.out hb); have HB14 := zK_ (below_step HB13.out hb); clear hd hb BA13 HW13 HG13; (go_wp2_with fail); refine (laws_markIntSS.callsR k (fun k_ => w7.heap.size ≤ k_ ∧ k_ < w8.heap.size) _ G 1 M m w _ HB14.out (Kd.S_lower HG14.out HB7.out.size) Hm_.out).mono ?_; rintro e w15 ⟨rfl, hb, hk, hS⟩; obtain ⟨hl, _, _⟩ := Kd.S_reads' hS; rw [hl] at hS; have HM15 := zK_ hS; have HW15 := zK_ (Kd.N_step HW14.out fun k_ ho hlt => hk.2 k_ hlt fun h => by have h2 : k_ < w4.heap.size := ho; have := h.1; have := HZ7.out; have := HGAX.out; omega); have BA15 := zK_ (blk_kept BA14.out hk fun h => by have := h.1; have := HGAX.out; have := HZ7.out; omega); have HB15 := zK_ hb; clear hb hk hS BA14 HW14 HG14; rw [hl]; clear hl; (go_wp2_with fail); refine (laws_heldIntSS.calls k _ _ M 1 q _ (Kd.S_reads' HM15.out).2.2 (Kd.S_reads' HM15.out).2.1 Hq_.out).mono ?_; rintro e w16 ⟨rfl, hd⟩; have hb := Drawn0.below hd; have BA16 := zK_ (blk_below BA15.out hb); have HW16 := zK_ (Kd.N_below HW15.out hb); have HM16 := zK_ (Kd.S_below HM15.out hb); have HB16 := zK_ (below_step HB15.out hb); clear hd hb BA15 HW15 HM15; have hz0 : w16.cell? ⟨ga, 0, none⟩ = some (.int .i64 aD) := (blk_cell BA16.out 0).trans rfl; have hz1 : w16.cell? ⟨ga, 1, none⟩ = some (.slice aH aC.length aG) := (blk_cell BA16.out 1).trans rfl; (go_wp2_with fail); refine (laws_toGraph.calls k aD _ _ aC cn ce _ (Kd.C_below HR.out HB16.out) HC.out Hc_.out).mono ?_; rintro e w17 ⟨v17, rfl, hR, hb⟩; obtain ⟨Ac, cc, ec⟩ := Kd.R_slice hR; subst ec; have HCc := zK_ (Kd.R_reads' hR); have HW17 := zK_ (Kd.N_below HW16.out hb); have HM17 := zK_ (Kd.S_below HM16.out hb); have HB17 := zK_ (below_step HB16.out hb); clear hR hb hz0 hz1 BA16 HW16 HM16; (go_wp2_with fail); refine (impl_ClassesOf.calls k cn _ _ ce H _ _ HCc.out.2.2 HCc.out.2.1 HH_.out).mono ?_; rintro e w18 ⟨v18, rfl, hS, hb⟩; obtain ⟨Ah, ch, eh⟩ := Kd.S_slice hS; subst eh; have HG18 := zK_ hS; have HW18 := zK_ (Kd.N_below HW17.out hb); have HM18 := zK_ (Kd.S_below HM17.out hb); have HB18 := zK_ (below_step HB17.out hb); clear hS hb HCc HW17 HM17; (go_wp2_with fail); refine (laws_eqIntSS.calls k _ _ H _ _ W true _ (Kd.S_reads' HG18.out).2.2 (Kd.S_reads' HG18.out).2.1 (Kd.N_reads' HW18.out).2.2 (Kd.N_reads' HW18.out).2.1 He4_.out).mono ?_; rintro e w19 ⟨rfl, hd⟩; have hb := Drawn0.below hd; have HM19 := zK_ (Kd.S_below HM18.out hb); have HB19 := zK_ (below_step HB18.out hb); clear hd hb HW18 HM18 HG18; (go_wp2_with fail); refine (laws_heldIntSS.calls k _ _ M 1 q2 _ (Kd.S_reads' HM19.out).2.2 (Kd.S_reads' HM19.out).2.1 Hq2_.out).mono ?_; rintro e w20 ⟨rfl, hd⟩; have hb := Drawn0.below hd; have HM20 := zK_ (Kd.S_below HM19.out hb); have HB20 := zK_ (below_step HB19.out hb); clear hd hb HM19; go_wp2; go_ret; exact ⟨rfl, HB20.out⟩
end Go.Proofs.Ytnbljcgdgblgoaa.P
end

section
namespace Go.Proofs.Ytnbljcgdgblgoaa.Cf
set_option linter.unusedVariables false
set_option linter.unusedSimpArgs false
open Go.RowKit Go.Proofs.YtnbljcgdgblgoaaW.PrintWords Go.Proofs.Ytnbljcgdgblgoaa.P
theorem forall_drop' {α : Type} {l : List α} {P : α → Prop} {i : Nat} (h : i < l.length) : (∀ e ∈ l.drop i, P e) ↔ (P l[i] ∧ ∀ e ∈ l.drop (i + 1), P e) := by
 rw [List.drop_eq_getElem_cons h]
 simp only [List.mem_cons, forall_eq_or_imp]
theorem implGraph (n : Int) (es : List E) : impl_GraphOk.f n es = some (gOk n es) := rfl
theorem gOk_true {n : Int} {es : List E} (h : gOk n es = true) : GOk n es := gOk_iff.1 h
theorem allWithin_l0 (a b : Int) (l : List Int) (hl : l.length ≤ 1048576) : ∀ (d i : Nat), i + d = l.length → Ep (fun k => impl_allWithin.l0 k a b l (l.length : Int) (i : Int)) (· = decide (∀ x ∈ l.drop i, a ≤ x ∧ x ≤ b)) := by
 intro d
 induction d with
 | zero =>
  intro i hi
  refine Ep.up ?_
  simp only [impl_allWithin.l0]
  refine Ep.neg (by omega) (Ep.now ?_)
  rw [List.drop_of_length_le (by omega)]
  simp
 | succ d ih =>
  intro i hi
  have hlt : i < l.length := by omega
  refine Ep.up ?_
  simp only [impl_allWithin.l0]
  refine Ep.pos (by omega) (Ep.pos (by omega) (Ep.pos (by omega) ?_))
  rw [rd_get hlt, wrap_succ (by omega)]
  refine Ep.bind0 (within_eq _ _ _) ?_
  refine Ep.ite (fun h => ?_) (fun h => Ep.now ?_)
  ·have h' : a ≤ l[i] ∧ l[i] ≤ b := by simpa using h
   refine (ih (i + 1) (by omega)).mono ?_
   rintro _ rfl
   simp only [forall_drop' hlt, h', true_and]
  ·have h' : ¬ (a ≤ l[i] ∧ l[i] ≤ b) := by simpa using h
   simp only [forall_drop' hlt, h', false_and, decide_false]
theorem allWithin_ok (l : List Int) (a b : Int) (hl : l.length ≤ 1048576) : Ep (fun k => impl_allWithin.f k l a b) (· = decide (∀ x ∈ l, a ≤ x ∧ x ≤ b)) := by
 have := allWithin_l0 a b l hl l.length 0 (by omega)
 simp only [impl_allWithin.f]
 rw [List.drop_zero] at this
 exact this
theorem isVertex_eq (n : Int) (es : List E) (v : Int) (hn : Wf .i64 n) : impl_isVertex.f n es v = some (gOk n es && decide (0 ≤ v ∧ v < n)) := by
 unfold impl_isVertex.f
 rw [implGraph]
 simp only [Option.bind_some]
 by_cases h : gOk n es = true
 ·have h1 := (gOk_true h).1.1
  have h6 := (gOk_true h).1.2.1
  rw [if_pos h, wrap_id (by omega) (by omega), within_eq, h]
  simp only [Option.bind_some, Bool.true_and]
  have : (0 ≤ v ∧ v ≤ n - 1) ↔ (0 ≤ v ∧ v < n) := by omega
  simp only [this]
 ·rw [if_neg h]
  have : gOk n es = false := by simpa using h
  rw [this]
  rfl
def At (es : List E) (k v : Int) : Prop := ∃ j : Nat, k = j ∧ ∃ h : j < es.length, es[j].f0 = v ∨ es[j].f1 = v
theorem At.of {es : List E} {j : Nat} {v : Int} (hj : j < es.length) : At es (j : Int) v ↔ (es[j].f0 = v ∨ es[j].f1 = v) := by
 constructor
 ·rintro ⟨i, hi, h, hx⟩
  have : i = j := by omega
  subst this
  exact hx
 ·intro h
  exact ⟨j, rfl, hj, h⟩
end Go.Proofs.Ytnbljcgdgblgoaa.Cf
end

section
namespace Go.Proofs.Ytnbljcgdgblgoaa.Cf
set_option linter.unusedVariables false
set_option linter.unusedSimpArgs false
def sumN : Nat → (Nat → Int) → Int
 | 0, _ => 0
 | n + 1, f => sumN n f + f n
def sumE (es : List E) (f : E → Int) : Int := (es.map f).sum
theorem sumE_cons (e : E) (r : List E) (f : E → Int) : sumE (e :: r) f = f e + sumE r f := by simp [sumE]
theorem sumN_congr {n : Nat} {f g : Nat → Int} (h : ∀ i, i < n → f i = g i) : sumN n f = sumN n g := by
 induction n with
 | zero => rfl
 | succ n ih => simp only [sumN]; rw [ih (fun i hi => h i (by omega)), h n (by omega)]
theorem sumN_le {n : Nat} {f g : Nat → Int} (h : ∀ i, i < n → f i ≤ g i) : sumN n f ≤ sumN n g := by
 induction n with
 | zero => exact Int.le_refl _
 | succ n ih =>
  simp only [sumN]
  have := ih (fun i hi => h i (by omega))
  have := h n (by omega)
  omega
theorem sumN_add (n : Nat) (f g : Nat → Int) : sumN n (fun i => f i + g i) = sumN n f + sumN n g := by
 induction n with
 | zero => rfl
 | succ n ih => simp only [sumN]; rw [ih]; omega
theorem sumN_zero (n : Nat) : sumN n (fun _ => 0) = 0 := by
 induction n with
 | zero => rfl
 | succ n ih => simp only [sumN]; rw [ih]; rfl
theorem sumN_const (n : Nat) (c : Int) : sumN n (fun _ => c) = n * c := by
 induction n with
 | zero => simp [sumN]
 | succ n ih => simp only [sumN]; rw [ih]; rw [Int.natCast_succ, Int.add_mul]; omega
theorem sumN_one {n : Nat} (k : Nat) (hk : k < n) (c : Int) : sumN n (fun i => if i = k then c else 0) = c := by
 induction n with
 | zero => omega
 | succ n ih =>
  simp only [sumN]
  by_cases h : n = k
  ·subst h
   rw [if_pos rfl, sumN_congr (g := fun _ => 0) (fun i hi => by rw [if_neg (by omega)]), sumN_zero]
   omega
  ·rw [ih (by omega), if_neg h]
   omega
theorem sumE_congr {es : List E} {f g : E → Int} (h : ∀ e ∈ es, f e = g e) : sumE es f = sumE es g := by
 unfold sumE
 rw [List.map_congr_left h]
theorem sumE_le {es : List E} {f g : E → Int} (h : ∀ e ∈ es, f e ≤ g e) : sumE es f ≤ sumE es g := by
 induction es with
 | nil => exact Int.le_refl _
 | cons e r ih =>
  rw [sumE_cons, sumE_cons]
  have := ih (fun x hx => h x (List.mem_cons_of_mem _ hx))
  have := h e List.mem_cons_self
  omega
theorem sumE_zero {es : List E} {f : E → Int} (h : ∀ e ∈ es, f e = 0) : sumE es f = 0 := by
 induction es with
 | nil => rfl
 | cons e r ih => rw [sumE_cons, ih (fun x hx => h x (List.mem_cons_of_mem _ hx)), h e List.mem_cons_self]; rfl
theorem sumE_nonneg {es : List E} {f : E → Int} (h : ∀ e ∈ es, 0 ≤ f e) : 0 ≤ sumE es f := by
 have := sumE_le (es := es) (f := fun _ => 0) (g := f) h
 rw [sumE_zero (fun _ _ => rfl)] at this
 exact this
theorem sumE_term {es : List E} {f : E → Int} (h : ∀ e ∈ es, 0 ≤ f e) {e : E} (he : e ∈ es) : f e ≤ sumE es f := by
 induction es with
 | nil => cases he
 | cons a r ih =>
  rw [sumE_cons]
  have h0 := sumE_nonneg (fun x hx => h x (List.mem_cons_of_mem a hx))
  rcases List.mem_cons.1 he with rfl | he
  ·omega
  ·have := ih (fun x hx => h x (List.mem_cons_of_mem _ hx)) he
   have := h a List.mem_cons_self
   omega
theorem sumE_mul (es : List E) (c : Int) (f : E → Int) : sumE es (fun e => c * f e) = c * sumE es f := by
 induction es with
 | nil => simp [sumE]
 | cons e r ih => rw [sumE_cons, sumE_cons, ih, Int.mul_add]
def lapE (s : Int → Int) (w : Int) (e : E) : Int := (if e.f0 = w then s e.f0 - s e.f1 else 0) + (if e.f1 = w then s e.f1 - s e.f0 else 0)
def lap (es : List E) (s : Int → Int) (w : Int) : Int := sumE es (lapE s w)
def ind (P : Int → Bool) (v : Int) : Int := if P v then 1 else 0
def one (v : Int) (t : Int) (w : Int) : Int := if w = v then t else 0
theorem lap_nil (s : Int → Int) (w : Int) : lap [] s w = 0 := rfl
theorem lap_cons (e : E) (r : List E) (s : Int → Int) (w : Int) : lap (e :: r) s w = lapE s w e + lap r s w := sumE_cons _ _ _
theorem lap_const {es : List E} {s : Int → Int} {c : Int} (h : ∀ e ∈ es, s e.f0 = c ∧ s e.f1 = c) (w : Int) : lap es s w = 0 := by
 apply sumE_zero
 intro e he
 unfold lapE
 rw [(h e he).1, (h e he).2]
 split <;> split <;> omega
def Red (n : Nat) (es : List E) (q : Int) (d : Int → Int) : Prop :=
 (∀ v : Int, 0 ≤ v → v < n → v ≠ q → 0 ≤ d v) ∧ ∀ S : Int → Bool, S q = false → (∃ v : Int, 0 ≤ v ∧ v < n ∧ S v = true) → ∃ v : Int, 0 ≤ v ∧ v < n ∧ S v = true ∧ d v < lap es (ind S) v
theorem exists_cut {es : List E} {S : Int → Prop} {a b : Int} (hab : Conn es a b) (ha : ¬ S a) (hb : S b) : ∃ u w, Adj es u w ∧ S u ∧ ¬ S w := by
 induction hab with
 | refl => exact absurd hb ha
 | @tail x y _ hadj ih =>
  by_cases hx : S x
  ·exact ih hx
  ·exact ⟨y, x, hadj.symm, hb, hx⟩
def below (n : Nat) (s : Int → Int) (t : Int) : Nat := (List.range n).countP (fun i => decide (s (i : Nat) < t))
def valE (v : Int) (e : E) : Int := if e.f0 = v ∨ e.f1 = v then 1 else 0
def val (es : List E) (v : Int) : Int := sumE es (valE v)
def multE (a b : Int) (e : E) : Int := if (e.f0 = a ∧ e.f1 = b) ∨ (e.f0 = b ∧ e.f1 = a) then 1 else 0
def mult (es : List E) (a b : Int) : Int := sumE es (multE a b)
theorem val_nonneg (es : List E) (v : Int) : 0 ≤ val es v := sumE_nonneg fun e _ => by unfold valE; split <;> omega
theorem mult_nonneg (es : List E) (a b : Int) : 0 ≤ mult es a b := sumE_nonneg fun e _ => by unfold multE; split <;> omega
theorem sumE_len {es : List E} {f : E → Int} (h : ∀ e ∈ es, f e ≤ 1) : sumE es f ≤ es.length := by
 induction es with
 | nil => simp [sumE]
 | cons e r ih =>
  rw [sumE_cons]
  have := ih (fun x hx => h x (List.mem_cons_of_mem _ hx))
  have := h e List.mem_cons_self
  simp only [List.length_cons]
  omega
theorem val_le (es : List E) (v : Int) : val es v ≤ es.length := sumE_len fun e _ => by unfold valE; split <;> omega
theorem mult_le (es : List E) (a b : Int) : mult es a b ≤ es.length := sumE_len fun e _ => by unfold multE; split <;> omega
theorem lap_one_self {n : Int} {es : List E} (hes : ∀ e ∈ es, EOk n e) (v t : Int) : lap es (one v t) v = t * val es v := by
 unfold lap val
 rw [← sumE_mul]
 apply sumE_congr
 intro e he
 have hk := hes e he
 unfold EOk at hk
 unfold lapE valE one
 by_cases a : e.f0 = v
 ·have b : ¬ e.f1 = v := by omega
  simp [a, b]
 ·by_cases b : e.f1 = v
  ·simp [a, b]
  ·simp [a, b]
theorem val_pos {n : Nat} {es : List E} (hj : Joined n es) {q v : Int} (hq : 0 ≤ q ∧ q < n) (hv : 0 ≤ v ∧ v < n) (hne : v ≠ q) : 0 < val es v := by
 have hc : Conn es q v := ((hj q hq.1 hq.2).symm).trans (hj v hv.1 hv.2)
 obtain ⟨u, w, ⟨e, he, hx⟩, hu, hw⟩ := exists_cut (S := fun x => x = v) hc (fun h => hne h.symm) rfl
 subst hu
 have h1 := sumE_term (f := valE u) (fun e _ => by unfold valE; split <;> omega) he
 have h2 : valE u e = 1 := by
  unfold valE
  rw [if_pos]
  rcases hx with ⟨a, _⟩ | ⟨_, b⟩
  ·exact .inl a
  ·exact .inr b
 unfold val
 omega
end Go.Proofs.Ytnbljcgdgblgoaa.Cf
end

section
namespace Go.Proofs.Ytnbljcgdgblgoaa.P
open Go.RowKit Go.Proofs.YtnbljcgdgblgoaaW.PrintWords Go.Proofs.YtnbljcgdgblgoaaW.PrintLast Go.Proofs.YtnbljcgdgblgoaaW.PrintMore
attribute [local go_sem] max2_int min2_int max_two min_two max_three min_three max_four min_four
set_option linter.unusedVariables false
set_option linter.unusedSimpArgs false
def impl_DivisorOk.f (k : Nat) (aD : Int) (aC : List (S57)) (l1 : List Int) : Option (Bool) := (impl_GraphOk.f aD aC).bind fun bA => (if bA = true then (if (l1.length : Int) = aD then ((impl_allWithin.f k l1 (-60) 60).bind fun bL => (some bL)) else (some false)) else (some false))
theorem impl_DivisorOk.mono : ∀ a0 a1 a2 k, LeO (impl_DivisorOk.f k a0 a1 a2) (impl_DivisorOk.f (k + 1) a0 a1 a2) := by
 intro a0 a1 a2 k; unfold impl_DivisorOk.f; repeat' first | (with_reducible apply impl_allWithin.mono) | (with_reducible exact LeO.refl _) | (with_reducible exact LeO.none _) | (with_reducible refine LeO.ite ?_ ?_) | (with_reducible refine LeO.bind ?_ (fun _ => ?_)) | apply impl_allWithin.mono | exact LeO.none _ | refine LeO.ite ?_ ?_ | refine LeO.bind ?_ (fun _ => ?_)
theorem impl_DivisorOk.calls (k : Nat) (aD : Int) (aH : Option Addr) (aG : Nat) (aC : List (S57)) (A1 : Option Addr) (c1 : Nat) (l1 : List Int) (r : Bool) (w : World) (hr0_1 : Kd.C k57 w aH aC.length aC) (hc0_1 : aC.length ≤ aG) (hr1 : Kd.C (Kd.int .i64) w A1 l1.length l1) (hc1 : l1.length ≤ c1) (h : impl_DivisorOk.f k aD aC l1 = some r) :
  Calls Try.prog 108 #[.agg #[.int .i64 aD, .slice aH aC.length aG], .slice A1 l1.length c1] w fun e w' => e = .returned (.bool r) ∧ Below w.heap.size w w' := by
 have hu25 := Try.underlying25; have bM := zK_ hr0_1; have bG := zK_ hc0_1; clear hr0_1 hc0_1; have HR1 := zK_ hr1; have HC1 := zK_ hc1; clear hr1 hc1; have HB := zK_ (Below.refl w.heap.size w); have H : ((impl_GraphOk.f aD aC).bind fun bA => (if bA = true then (if (l1.length : Int) = aD then ((impl_allWithin.f k l1 (-60) 60).bind fun bL => (some bL)) else (some false)) else (some false))) = some r := h; clear h; obtain ⟨bA, A30, H⟩ := zO_ H; (try dsimp only at H); have A3 := zK_ A30; clear A30; by_cases c4 : bA = true; rotate_left
 ·replace c4 := Bool.eq_false_iff.mpr c4; subst c4; rw [if_neg (show ¬ (false = true) by decide)] at H; obtain rfl := Option.some.inj H; go_enter Try.func108, Try.ntmps108; (go_wp2_with (first | ((with_reducible refine gate_dst (N := 2) rfl ?_); (try (refine gate_guard (by rfl) ?_; dsimp only)); refine box_event ?hg (N := 2) ?hd (cs := #[.int .i64 aD, .slice aH aC.length aG]) (t := 25) ?hr ?_; (case hd => rfl); (case hg => rfl); (case hr => exact zz9); intro aE hg w15 hbox hb; have n_ := zA4 (below_step zz1 hb) hbox (zz10 : w.heap.size ≤ aE) (zz10 : w.heap.size ≤ aE); clear HB; obtain ⟨HB, aA, GW101, GE101⟩ := n_; clear hb hbox hg; have jK := zC20 aA; have jJ := zC21 aA; have jC := blk_frozen aA.out 0; have jB := blk_frozen aA.out 1) | ((with_reducible refine gate_callee (f := 50) rfl ?_); refine goesL_ (some 6) rfl rfl Try.func50 (by kernel_rfl) rfl #[.agg #[.int .i64 aD, .slice aH aC.length aG]] rfl zz4 ?_; (with_reducible refine (impl_GraphOk.calls aD _ _ aC false _ ?side1 ?side2 A3.out).mono ?_); (case side1 => exact zz6); (case side2 => exact bG.out); rintro e w17 ⟨rfl, hb⟩; refine ⟨_, rfl, ?_⟩; have n_ := zA2 (blk_below (g := aE) (o := .cells #[.int .i64 aD, .slice aH aC.length aG] 25 (0, 0)) zz2 hb) (below_step zz0 hb); clear aA HB; obtain ⟨aA, HB⟩ := n_; clear hb))); go_ret; exact ⟨zz7, zz0⟩
 subst c4; rw [if_pos rfl] at H; by_cases c5 : (l1.length : Int) = aD; rotate_left
 ·rw [if_neg c5] at H; have dF : ((l1.length : Int) == aD) = false := beq_eq_false_iff_ne.mpr c5; have kJ : ((l1.length : Int) != aD) = true := bne_iff_ne.mpr c5; obtain rfl := Option.some.inj H; go_enter Try.func108, Try.ntmps108; (go_wp2_with (first | ((with_reducible refine gate_dst (N := 2) rfl ?_); (try (refine gate_guard (by rfl) ?_; dsimp only)); refine box_event ?hg (N := 2) ?hd (cs := #[.int .i64 aD, .slice aH aC.length aG]) (t := 25) ?hr ?_; (case hd => rfl); (case hg => rfl); (case hr => exact zz9); intro aE hg w11 hbox hb; have n_ := zA4 (below_step zz1 hb) hbox (zz10 : w.heap.size ≤ aE) (zz10 : w.heap.size ≤ aE); clear HB; obtain ⟨HB, aA, GW101, GE101⟩ := n_; clear hb hbox hg; have fV := zC20 aA; have fU := zC21 aA; have fT := blk_frozen aA.out 0; have fS := blk_frozen aA.out 1) | ((with_reducible refine gate_callee (f := 50) rfl ?_); refine goesL_ (some 6) rfl rfl Try.func50 (by kernel_rfl) rfl #[.agg #[.int .i64 aD, .slice aH aC.length aG]] rfl zz4 ?_; (with_reducible refine (impl_GraphOk.calls aD _ _ aC true _ ?side1 ?side2 A3.out).mono ?_); (case side1 => exact zz6); (case side2 => exact bG.out); rintro e w13 ⟨rfl, hb⟩; refine ⟨_, rfl, ?_⟩; have n_ := zA2 (blk_below (g := aE) (o := .cells #[.int .i64 aD, .slice aH aC.length aG] 25 (0, 0)) zz2 hb) (below_step zz0 hb); clear aA HB; obtain ⟨aA, HB⟩ := n_; clear hb; have eG := zC20 aA; have eF := zC21 aA; have dZ := blk_frozen aA.out 0; have dY := blk_frozen aA.out 1))); go_ret; exact ⟨zz7, zz0⟩
 rw [if_pos c5] at H; have dF : ((l1.length : Int) == aD) = true := beq_iff_eq.mpr c5; have kJ : ((l1.length : Int) != aD) = false := bne_eq_false_iff_eq.mpr c5; clear c5; obtain ⟨bL, A60, H⟩ := zO_ H; (try dsimp only at H); have A6 := zK_ A60; clear A60; obtain rfl := Option.some.inj H; go_enter Try.func108, Try.ntmps108; (go_wp2_with (first | ((with_reducible refine gate_dst (N := 2) rfl ?_); (try (refine gate_guard (by rfl) ?_; dsimp only)); refine box_event ?hg (N := 2) ?hd (cs := #[.int .i64 aD, .slice aH aC.length aG]) (t := 25) ?hr ?_; (case hd => rfl); (case hg => rfl); (case hr => exact zz9); intro aE hg w7 hbox hb; have n_ := zA4 (below_step zz1 hb) hbox (zz10 : w.heap.size ≤ aE) (zz10 : w.heap.size ≤ aE); clear HB; obtain ⟨HB, aA, GW101, GE101⟩ := n_; clear hb hbox hg; have gA := zC20 aA; have f9 := zC21 aA; have f4 := blk_frozen aA.out 0; have f3 := blk_frozen aA.out 1) | ((with_reducible refine gate_callee (f := 50) rfl ?_); refine goesL_ (some 6) rfl rfl Try.func50 (by kernel_rfl) rfl #[.agg #[.int .i64 aD, .slice aH aC.length aG]] rfl zz4 ?_; (with_reducible refine (impl_GraphOk.calls aD _ _ aC true _ ?side1 ?side2 A3.out).mono ?_); (case side1 => exact zz6); (case side2 => exact bG.out); rintro e w9 ⟨rfl, hb⟩; refine ⟨_, rfl, ?_⟩; have n_ := zA2 (blk_below (g := aE) (o := .cells #[.int .i64 aD, .slice aH aC.length aG] 25 (0, 0)) zz2 hb) (below_step zz0 hb); clear aA HB; obtain ⟨aA, HB⟩ := n_; clear hb; have cN := zC20 aA; have cM := zC21 aA; have cK := blk_frozen aA.out 0; have cJ := blk_frozen aA.out 1) | (go_at_call 51; (with_reducible refine (impl_allWithin.calls k _ _ l1 (-60) 60 bL _ ?side1 ?side2 A6.out).mono ?_); (case side1 => repeat (first | exact (Kd.C_below HR1.out HB.out) | (with_reducible refine Kd.C_alloc ?_ _) | (with_reducible refine Kd.C_drewN ?_ _) | (with_reducible refine Kd.C_drew ?_))); (case side2 => exact HC1.out); rintro e w' ⟨rfl, ⟨nd, rfl⟩⟩))); go_ret; exact ⟨zz7, zz0⟩
end Go.Proofs.Ytnbljcgdgblgoaa.P
end

section
namespace Go.Proofs.Ytnbljcgdgblgoaa.Cf
set_option linter.unusedVariables false
set_option linter.unusedSimpArgs false
open Go.RowKit Go.Proofs.YtnbljcgdgblgoaaW.PrintWords Go.Proofs.Ytnbljcgdgblgoaa.P
def valG (n : Int) (es : List E) (v : Int) : Int := if 0 ≤ v ∧ v < n then val es v else 0
theorem val_drop {es : List E} {i : Nat} (h : i < es.length) (v : Int) : val (es.drop i) v = valE v es[i] + val (es.drop (i + 1)) v := by
 rw [List.drop_eq_getElem_cons h]
 exact sumE_cons _ _ _
theorem specVal_loop (v : Int) (es : List E) (hl : es.length ≤ 1048576) : ∀ (d i : Nat) (a : Int), i + d = es.length → 0 ≤ a → a ≤ i → Ep (fun k => spec_Valence.l0 k v a es (es.length : Int) (i : Int)) (· = a + val (es.drop i) v) := by
 intro d
 induction d with
 | zero =>
  intro i a hi h0 ha
  refine Ep.up ?_
  simp only [spec_Valence.l0]
  refine Ep.neg (by omega) (Ep.now ?_)
  rw [List.drop_of_length_le (by omega)]
  simp [val, sumE]
 | succ d ih =>
  intro i a hi h0 ha
  have hlt : i < es.length := by omega
  refine Ep.up ?_
  simp only [spec_Valence.l0]
  refine Ep.pos (by omega) (Ep.pos (by omega) (Ep.pos (by omega) ?_))
  rw [rdE_get hlt, wrap_succ (by omega), wrap_id (x := a + 1) (by omega) (by omega), val_drop hlt]
  refine Ep.ite (fun h => ?_) (fun h => Ep.ite (fun h2 => ?_) (fun h2 => ?_))
  ·refine (ih (i + 1) (a + 1) (by omega) (by omega) (by omega)).mono ?_
   rintro _ rfl
   unfold valE
   rw [if_pos (.inl h)]
   omega
  ·refine (ih (i + 1) (a + 1) (by omega) (by omega) (by omega)).mono ?_
   rintro _ rfl
   unfold valE
   rw [if_pos (.inr h2)]
   omega
  ·refine (ih (i + 1) a (by omega) h0 (by omega)).mono ?_
   rintro _ rfl
   unfold valE
   rw [if_neg (by rintro (x | x); exact h x; exact h2 x)]
   omega
theorem specValence (n : Int) (es : List E) (v : Int) (hl : es.length ≤ 1048576) : Ep (fun k => spec_Valence.f k n es v) (· = valG n es v) := by
 have hv : spec_l02Vert.f n es v = some (decide (0 ≤ v ∧ v < n)) := by
  unfold spec_l02Vert.f
  by_cases h : v ≥ 0
  ·rw [if_pos h]
   have : (0 ≤ v ∧ v < n) ↔ v < n := ⟨fun x => x.2, fun x => ⟨h, x⟩⟩
   simp only [this]
  ·rw [if_neg h]
   have : ¬ (0 ≤ v ∧ v < n) := fun x => h x.1
   simp only [this, decide_false]
 simp only [spec_Valence.f, valG]
 refine Ep.bind0 hv (Ep.ite (fun h => ?_) (fun h => Ep.now ?_))
 ·refine (specVal_loop v es hl es.length 0 0 (by omega) (by omega) (by omega)).mono ?_
  rintro _ rfl
  rw [if_pos (by simpa using h), List.drop_zero]
  omega
 ·rw [if_neg (by simpa using h)]
theorem implVal_loop (v : Int) (es : List E) (hl : es.length ≤ 1048576) : ∀ (d i : Nat) (a : Int), i + d = es.length → 0 ≤ a → a ≤ i → Ep (fun k => impl_Valence.l0 k v a es (es.length : Int) (i : Int)) (· = a + val (es.drop i) v) := by
 intro d
 induction d with
 | zero =>
  intro i a hi h0 ha
  refine Ep.up ?_
  simp only [impl_Valence.l0]
  refine Ep.neg (by omega) (Ep.now ?_)
  rw [List.drop_of_length_le (by omega)]
  simp [val, sumE]
 | succ d ih =>
  intro i a hi h0 ha
  have hlt : i < es.length := by omega
  refine Ep.up ?_
  simp only [impl_Valence.l0]
  refine Ep.pos (by omega) (Ep.pos (by omega) (Ep.pos (by omega) ?_))
  rw [rdE_get hlt, wrap_succ (by omega), wrap_id (x := a + 1) (by omega) (by omega), val_drop hlt]
  refine Ep.ite (fun h => ?_) (fun h => Ep.ite (fun h2 => ?_) (fun h2 => ?_))
  ·refine (ih (i + 1) (a + 1) (by omega) (by omega) (by omega)).mono ?_
   rintro _ rfl
   unfold valE
   rw [if_pos (.inl h)]
   omega
  ·refine (ih (i + 1) (a + 1) (by omega) (by omega) (by omega)).mono ?_
   rintro _ rfl
   unfold valE
   rw [if_pos (.inr h2)]
   omega
  ·refine (ih (i + 1) a (by omega) h0 (by omega)).mono ?_
   rintro _ rfl
   unfold valE
   rw [if_neg (by rintro (x | x); exact h x; exact h2 x)]
   omega
theorem implValence (n : Int) (es : List E) (v : Int) (hl : es.length ≤ 1048576) : Ep (fun k => impl_Valence.f k n es v) (· = valG n es v) := by
 simp only [impl_Valence.f, valG]
 refine Ep.ite (fun h => ?_) (fun h => ?_)
 ·refine Ep.up ?_
  simp only [impl_Valence.j0]
  refine Ep.pos trivial (Ep.now ?_)
  rw [if_neg (by omega)]
 ·refine Ep.up ?_
  simp only [impl_Valence.j0]
  refine Ep.ite (fun h2 => Ep.now ?_) (fun h2 => ?_)
  ·have : v ≥ n := by simpa using h2
   rw [if_neg (by omega)]
  ·have : ¬ v ≥ n := by simpa using h2
   refine (implVal_loop v es hl es.length 0 0 (by omega) (by omega) (by omega)).mono ?_
   rintro _ rfl
   rw [if_pos (by omega), List.drop_zero]
   omega
end Go.Proofs.Ytnbljcgdgblgoaa.Cf
end

section
namespace Go.Proofs.Ytnbljcgdgblgoaa.Cf
set_option linter.unusedVariables false
set_option linter.unusedSimpArgs false
def burnSum (es : List E) (b : List Int) (v : Int) : Int := (b.map (mult es v)).sum
inductive Burn (n : Nat) (es : List E) (d : Int → Int) (q : Int) : List Int → Prop
 | start : Burn n es d q [q]
 | step {b : List Int} {v : Int} : Burn n es d q b → 0 ≤ v → v < n → v ∉ b → d v < burnSum es b v → Burn n es d q (b ++ [v])
theorem Burn.ok {n : Nat} {es : List E} {d : Int → Int} {q : Int} {b : List Int} (hq : 0 ≤ q ∧ q < n) (h : Burn n es d q b) : b.Nodup ∧ (∀ v ∈ b, 0 ≤ v ∧ v < n) ∧ q ∈ b := by
 induction h with
 | start => exact ⟨by simp, fun v hv => by rw [List.mem_singleton.1 hv]; exact hq, by simp⟩
 | @step b v _ h0 h1 hv _ ih =>
  refine ⟨?_, fun x hx => ?_, List.mem_append_left _ ih.2.2⟩
  ·rw [List.nodup_append]
   exact ⟨ih.1, by simp, fun a ha c hc => by
    rw [List.mem_singleton.1 hc]
    rintro rfl
    exact hv ha⟩
  ·rcases List.mem_append.1 hx with hx | hx
   ·exact ih.2.1 x hx
   ·rw [List.mem_singleton.1 hx]
    exact ⟨h0, h1⟩
theorem Burn.len {n : Nat} {es : List E} {d : Int → Int} {q : Int} {b : List Int} (hq : 0 ≤ q ∧ q < n) (h : Burn n es d q b) : b.length ≤ n := nodup_len n b (h.ok hq).1 (h.ok hq).2.1
theorem sum_ind (x : Int) : ∀ (b : List Int), b.Nodup → (b.map (fun w => if x = w then (1 : Int) else 0)).sum = if x ∈ b then 1 else 0
 | [], _ => by simp
 | a :: r, h => by
  have ih := sum_ind x r (List.nodup_cons.1 h).2
  have hn := (List.nodup_cons.1 h).1
  simp only [List.map_cons, List.sum_cons, ih, List.mem_cons]
  by_cases e : x = a
  ·subst e
   simp [hn]
  ·simp [e]
theorem sum_zero (b : List Int) : (b.map (fun _ => (0 : Int))).sum = 0 := by
 induction b with
 | nil => rfl
 | cons a r ih => simp only [List.map_cons, List.sum_cons, ih]; rfl
theorem sum_add (b : List Int) (f g : Int → Int) : (b.map (fun w => f w + g w)).sum = (b.map f).sum + (b.map g).sum := by
 induction b with
 | nil => rfl
 | cons a r ih => simp only [List.map_cons, List.sum_cons, ih]; omega
theorem burnSum_lap {n : Int} {es : List E} (hes : ∀ e ∈ es, EOk n e) {b : List Int} (hb : b.Nodup) {v : Int} (hv : v ∉ b) : burnSum es b v = lap es (ind (fun x => decide (x ∉ b))) v := by
 induction es with
 | nil =>
  unfold burnSum
  rw [lap_nil]
  exact sum_zero b
 | cons e r ih =>
  have ih := ih (fun x hx => hes x (List.mem_cons_of_mem _ hx))
  have hk := hes e List.mem_cons_self
  unfold EOk at hk
  have h1 : burnSum (e :: r) b v = (b.map (fun w => multE v w e)).sum + burnSum r b v := by
   unfold burnSum
   rw [← sum_add]
   congr 1
  rw [h1, ih, lap_cons]
  congr 1
  unfold lapE ind multE
  by_cases a : e.f0 = v
  ·have c : ¬ e.f1 = v := by omega
   have key : (b.map (fun w => if (e.f0 = v ∧ e.f1 = w) ∨ (e.f0 = w ∧ e.f1 = v) then (1 : Int) else 0)).sum = if e.f1 ∈ b then 1 else 0 := by
    rw [← sum_ind e.f1 b hb]
    congr 1
    apply List.map_congr_left
    intro w _
    simp [a, c]
   rw [key, if_pos a, if_neg c, a]
   by_cases m : e.f1 ∈ b <;> simp [m, hv]
  ·by_cases c : e.f1 = v
   ·have key : (b.map (fun w => if (e.f0 = v ∧ e.f1 = w) ∨ (e.f0 = w ∧ e.f1 = v) then (1 : Int) else 0)).sum = if e.f0 ∈ b then 1 else 0 := by
     rw [← sum_ind e.f0 b hb]
     congr 1
     apply List.map_congr_left
     intro w _
     simp [a, c]
    rw [key, if_neg a, if_pos c, c]
    by_cases m : e.f0 ∈ b <;> simp [m, hv]
   ·have key : (b.map (fun w => if (e.f0 = v ∧ e.f1 = w) ∨ (e.f0 = w ∧ e.f1 = v) then (1 : Int) else 0)).sum = 0 := by
     exact (congrArg List.sum (List.map_congr_left (g := fun _ => (0 : Int)) (fun w _ => by simp [a, c]))).trans (sum_zero b)
    rw [key, if_neg a, if_neg c]
    rfl
theorem lap_ind_mono {es : List E} {S T : Int → Bool} {v : Int} (hv : S v = true) (hw : T v = true) (h : ∀ x, S x = true → T x = true) : lap es (ind T) v ≤ lap es (ind S) v := by
 apply sumE_le
 intro e _
 have h0 := h e.f0
 have h1 := h e.f1
 unfold lapE ind
 by_cases a : e.f0 = v
 ·by_cases b : e.f1 = v
  ·simp [a, b]
  ·rw [if_pos a, if_pos a, if_neg b, if_neg b, a, hv, hw]
   cases hs : S e.f1 <;> cases ht : T e.f1 <;> simp_all
 ·by_cases b : e.f1 = v
  ·rw [if_neg a, if_neg a, if_pos b, if_pos b, b, hv, hw]
   cases hs : S e.f0 <;> cases ht : T e.f0 <;> simp_all
  ·rw [if_neg a, if_neg a, if_neg b, if_neg b]
   exact Int.le_refl _
theorem Burn.meets {n : Nat} {es : List E} (hes : ∀ e ∈ es, EOk n e) {d : Int → Int} {q : Int} (hq : 0 ≤ q ∧ q < n) {b : List Int} (h : Burn n es d q b) {S : Int → Bool} (hS : S q = false) : (∀ v ∈ b, S v = false) ∨ ∃ v : Int, 0 ≤ v ∧ v < n ∧ S v = true ∧ d v < lap es (ind S) v := by
 induction h with
 | start => exact .inl (fun v hv => by rw [List.mem_singleton.1 hv]; exact hS)
 | @step b v hb h0 h1 hv hlt ih =>
  rcases ih with ih | ih
  ·by_cases hx : S v = true
   ·right
    refine ⟨v, h0, h1, hx, ?_⟩
    rw [burnSum_lap hes (hb.ok hq).1 hv] at hlt
    have := lap_ind_mono (es := es) (S := S) (T := fun x => decide (x ∉ b)) hx (by simpa using hv) (fun x hx => by
     simp only [decide_eq_true_eq]
     intro hm
     rw [ih x hm] at hx
     cases hx)
    omega
   ·left
    intro x hm
    rcases List.mem_append.1 hm with hm | hm
    ·exact ih x hm
    ·rw [List.mem_singleton.1 hm]
     simpa using hx
  ·exact .inr ih
theorem Burn.red {n : Nat} {es : List E} (hes : ∀ e ∈ es, EOk n e) {d : Int → Int} {q : Int} (hq : 0 ≤ q ∧ q < n) {b : List Int} (h : Burn n es d q b) (hl : b.length = n) (hd : ∀ v : Int, 0 ≤ v → v < n → v ≠ q → 0 ≤ d v) : Red n es q d := by
 refine ⟨hd, fun S hS hx => ?_⟩
 rcases h.meets hes hq hS with hb | hb
 ·exfalso
  obtain ⟨v, h0, h1, hv⟩ := hx
  have : v ∈ b := by
   apply Classical.byContradiction
   intro hn
   have := nodup_len n (v :: b) (List.nodup_cons.2 ⟨hn, (h.ok hq).1⟩) (fun x hx => by
    rcases List.mem_cons.1 hx with rfl | hx
    ·exact ⟨h0, h1⟩
    ·exact (h.ok hq).2.1 x hx)
   simp at this
   omega
  rw [hb v this] at hv
  cases hv
 ·exact hb
theorem Red.burns {n : Nat} {es : List E} (hes : ∀ e ∈ es, EOk n e) {d : Int → Int} {q : Int} (hq : 0 ≤ q ∧ q < n) {b : List Int} (h : Burn n es d q b) (hr : Red n es q d) (hl : b.length < n) : ∃ v : Int, 0 ≤ v ∧ v < n ∧ v ∉ b ∧ d v < burnSum es b v := by
 have hok := h.ok hq
 have hex : ∃ v : Int, 0 ≤ v ∧ v < n ∧ v ∉ b := by
  apply Classical.byContradiction
  intro hc
  have := len_nodup n b (fun i hi => by
   apply Classical.byContradiction
   intro hm
   exact hc ⟨i, by omega, by omega, hm⟩)
  omega
 obtain ⟨v, h0, h1, hv, hlt⟩ := hr.2 (fun x => decide (x ∉ b)) (by simpa using hok.2.2) (by obtain ⟨v, h0, h1, hv⟩ := hex; exact ⟨v, h0, h1, by simpa using hv⟩)
 have hv' : v ∉ b := by simpa using hv
 exact ⟨v, h0, h1, hv', by rw [burnSum_lap hes hok.1 hv']; exact hlt⟩
theorem sumN_le_const {n : Nat} {f : Nat → Int} {c : Int} (h : ∀ i, i < n → f i ≤ c) : sumN n f ≤ n * c := by
 rw [← sumN_const]
 exact sumN_le h
theorem sumN_nonneg {n : Nat} {f : Nat → Int} (h : ∀ i, i < n → 0 ≤ f i) : 0 ≤ sumN n f := by
 have := sumN_le (n := n) (f := fun _ => 0) (g := f) h
 rw [sumN_zero] at this
 exact this
structure Sets (n : Nat) (es : List E) (q : Int) (d u : Int → Int) : Prop where
 pos : ∀ w, 0 ≤ u w
 at_q : u q = 0
 keeps : ∀ v : Int, 0 ≤ v → v < n → v ≠ q → 0 ≤ d v - lap es u v
theorem Sets.zero {n : Nat} {es : List E} {q : Int} {d : Int → Int} (h : ∀ v : Int, 0 ≤ v → v < n → v ≠ q → 0 ≤ d v) : Sets n es q d (fun _ => 0) where
 pos := fun _ => Int.le_refl _
 at_q := rfl
 keeps := fun v h0 h1 h2 => by
  rw [lap_const (c := 0) (fun _ _ => ⟨rfl, rfl⟩)]
  have := h v h0 h1 h2
  omega
def nextB (es : List E) (d : Int → Int) (b : List Int) : Nat → Nat → Int
 | 0, _ => -1
 | k + 1, i => if (i : Int) ∉ b ∧ d i < burnSum es b i then i else nextB es d b k (i + 1)
theorem nextB_ok (es : List E) (d : Int → Int) (b : List Int) : ∀ (k i : Nat), (nextB es d b k i = -1 ∧ ∀ j : Nat, i ≤ j → j < i + k → (j : Int) ∉ b → burnSum es b j ≤ d j) ∨ ((i : Int) ≤ nextB es d b k i ∧ nextB es d b k i < i + k ∧ nextB es d b k i ∉ b ∧ d (nextB es d b k i) < burnSum es b (nextB es d b k i))
 | 0, i => .inl ⟨rfl, fun j h0 h1 => by omega⟩
 | k + 1, i => by
  unfold nextB
  by_cases h : (i : Int) ∉ b ∧ d i < burnSum es b i
  ·rw [if_pos h]
   exact .inr ⟨by omega, by omega, h.1, h.2⟩
  ·rw [if_neg h]
   rcases nextB_ok es d b k (i + 1) with ⟨h1, h2⟩ | ⟨h1, h2, h3⟩
   ·refine .inl ⟨h1, fun j h3 h4 h5 => ?_⟩
    by_cases e : j = i
    ·subst e
     apply Classical.byContradiction
     intro hc
     exact h ⟨h5, by omega⟩
    ·exact h2 j (by omega) (by omega) h5
   ·exact .inr ⟨by omega, by omega, h3⟩
def burnW (n : Nat) (es : List E) (d : Int → Int) : Nat → List Int → List Int
 | 0, b => b
 | k + 1, b => if nextB es d b n 0 < 0 then b else burnW n es d k (b ++ [nextB es d b n 0])
def burnF (n : Nat) (es : List E) (d : Int → Int) (q : Int) : List Int := burnW n es d n [q]
def BClosed (n : Nat) (es : List E) (d : Int → Int) (b : List Int) : Prop := ∀ v : Int, 0 ≤ v → v < n → v ∉ b → burnSum es b v ≤ d v
theorem nextB_closed {n : Nat} {es : List E} {d : Int → Int} {b : List Int} (h : nextB es d b n 0 < 0) : BClosed n es d b := by
 rcases nextB_ok es d b n 0 with ⟨_, h2⟩ | ⟨h1, _⟩
 ·intro v h0 h1 hm
  have e : ((v.toNat : Nat) : Int) = v := by omega
  have := h2 v.toNat (by omega) (by omega) (by rw [e]; exact hm)
  rw [e] at this
  exact this
 ·omega
theorem burnW_ok {n : Nat} {es : List E} {d : Int → Int} {q : Int} (hq : 0 ≤ q ∧ q < n) : ∀ (k : Nat) (b : List Int), n + 1 ≤ b.length + k → Burn n es d q b → Burn n es d q (burnW n es d k b) ∧ BClosed n es d (burnW n es d k b)
 | 0, b, hl, h => by have := h.len hq; omega
 | k + 1, b, hl, h => by
  unfold burnW
  by_cases hc : nextB es d b n 0 < 0
  ·rw [if_pos hc]
   exact ⟨h, nextB_closed hc⟩
  ·rw [if_neg hc]
   rcases nextB_ok es d b n 0 with ⟨h1, _⟩ | ⟨h1, h2, h3, h4⟩
   ·omega
   ·exact burnW_ok hq k _ (by simp; omega) (h.step (by omega) (by omega) h3 h4)
theorem burnF_ok {n : Nat} {es : List E} {d : Int → Int} {q : Int} (hq : 0 ≤ q ∧ q < n) : Burn n es d q (burnF n es d q) ∧ BClosed n es d (burnF n es d q) := burnW_ok hq n [q] (by simp; omega) .start
theorem Red.lt {n : Nat} {es : List E} (hes : ∀ e ∈ es, EOk n e) {q : Int} {d : Int → Int} (h : Red n es q d) {v : Int} (h0 : 0 ≤ v) (h1 : v < n) (hv : v ≠ q) : 0 ≤ d v ∧ d v < val es v := by
 refine ⟨h.1 v h0 h1 hv, ?_⟩
 obtain ⟨w, _, _, hw, hlt⟩ := h.2 (fun x => decide (x = v)) (by simpa using fun e => hv e.symm) ⟨v, h0, h1, by simp⟩
 obtain rfl : w = v := by simpa using hw
 have e : ind (fun x => decide (x = w)) = one w 1 := by
  funext x
  unfold ind one
  by_cases c : x = w <;> simp [c]
 rw [e, lap_one_self hes] at hlt
 omega
end Go.Proofs.Ytnbljcgdgblgoaa.Cf
end

section
namespace Go.Proofs.Ytnbljcgdgblgoaa.Cf
set_option linter.unusedVariables false
set_option linter.unusedSimpArgs false
open Go.Proofs.YtnbljcgdgblgoaaW.PrintWords
theorem rd_set {x : List Int} {i : Int} (h0 : 0 ≤ i) (h1 : i < x.length) (y : Int) {w : Int} (hw : 0 ≤ w) : rd (x.set i.toNat y) w = if w = i then y else rd x w := by
 obtain ⟨a, rfl⟩ := Int.eq_ofNat_of_zero_le h0
 obtain ⟨b, rfl⟩ := Int.eq_ofNat_of_zero_le hw
 simp only [Int.ofNat_eq_natCast, Int.toNat_natCast, rd_nat, List.getD_eq_getElem?_getD] at *
 by_cases c : b = a
 ·subst c
  rw [List.getElem?_set_self (by omega), if_pos rfl]
  rfl
 ·rw [List.getElem?_set_ne (fun y => c y.symm), if_neg (by omega)]
def Bd (x : List Int) (B : Int) : Prop := ∀ w : Int, 0 ≤ w → w < x.length → -B ≤ rd x w ∧ rd x w ≤ B
theorem Bd.mono {x : List Int} {B B' : Int} (h : Bd x B) (hB : B ≤ B') : Bd x B' := fun w h0 h1 => by have := h w h0 h1; omega
def Rep (n : Nat) (c : List Int) (s : Int → Int) : Prop := c.length = n ∧ ∀ w : Int, 0 ≤ w → w < n → rd c w = s w
theorem Rep.ext {n : Nat} {c c' : List Int} {s : Int → Int} (h : Rep n c s) (h' : Rep n c' s) : c = c' := by
 apply List.ext_getElem (by rw [h.1, h'.1])
 intro i h1 h2
 have e := h.2 i (by omega) (by have := h.1; omega)
 have e' := h'.2 i (by omega) (by have := h.1; omega)
 rw [rd_get h1] at e
 rw [rd_get h2] at e'
 rw [e, e']
theorem Rep.congr {n : Nat} {c : List Int} {s t : Int → Int} (h : Rep n c s) (he : ∀ w : Int, 0 ≤ w → w < n → s w = t w) : Rep n c t := ⟨h.1, fun w h0 h1 => (h.2 w h0 h1).trans (he w h0 h1)⟩
theorem Rep.set {n : Nat} {c : List Int} {s : Int → Int} (h : Rep n c s) {v : Int} (h0 : 0 ≤ v) (h1 : v < n) (y : Int) : Rep n (c.set v.toNat y) (fun w => if w = v then y else s w) := by
 refine ⟨by rw [List.length_set]; exact h.1, fun w w0 w1 => ?_⟩
 rw [rd_set h0 (by rw [h.1]; exact h1) y w0, h.2 w w0 w1]
theorem rd_replicate (n : Nat) (v : Int) : rd (List.replicate n (0 : Int)) v = 0 := by
 unfold rd
 rw [List.getD_eq_getElem?_getD]
 by_cases h : v.toNat < n
 ·rw [List.getElem?_replicate_of_lt h]; rfl
 ·rw [List.getElem?_eq_none (by simp; omega)]; rfl
theorem Rep.zero (n : Nat) : Rep n (List.replicate n (0 : Int)) (fun _ => 0) := ⟨by simp, fun w _ _ => rd_replicate n w⟩
def repL (n : Nat) (f : Int → Int) : List Int := (List.range n).map fun i : Nat => f (i : Int)
theorem repL_len (n : Nat) (f : Int → Int) : (repL n f).length = n := by simp [repL]
theorem repL_rep (n : Nat) (f : Int → Int) : Rep n (repL n f) f := by
 refine ⟨by simp [repL], fun w h0 h1 => ?_⟩
 obtain ⟨a, rfl⟩ := Int.eq_ofNat_of_zero_le h0
 rw [rd_get (by simp [repL]; omega)]
 simp [repL]
theorem Rep.eq {n : Nat} {c : List Int} {s : Int → Int} (h : Rep n c s) : c = repL n s := h.ext (repL_rep n s)
theorem valG_in {n : Int} {es : List E} {v : Int} (h : 0 ≤ v ∧ v < n) : valG n es v = val es v := by
 unfold valG
 rw [if_pos h]
theorem sum_pick (f : Int → Int) (n : Nat) : ∀ (b : List Int), b.Nodup → (∀ v ∈ b, 0 ≤ v ∧ v < n) → sumN n (fun w => if (w : Int) ∈ b then f w else 0) = (b.map f).sum
 | [], _, _ => by simp [sumN_zero]
 | a :: r, hb, hr => by
  have ha := hr a List.mem_cons_self
  rw [List.map_cons, List.sum_cons, ← sum_pick f n r (List.nodup_cons.1 hb).2 (fun v hv => hr v (List.mem_cons_of_mem _ hv)), ← sumN_one (n := n) a.toNat (by omega) (f a), ← sumN_add]
  apply sumN_congr
  intro i hi
  by_cases e : i = a.toNat
  ·have e' : (i : Int) = a := by omega
   rw [if_pos e, e', if_pos List.mem_cons_self, if_neg (List.nodup_cons.1 hb).1]
   omega
  ·have e' : (i : Int) ≠ a := by omega
   rw [if_neg e]
   simp [e']
end Go.Proofs.Ytnbljcgdgblgoaa.Cf
end

section
namespace Go.Proofs.Ytnbljcgdgblgoaa.Cf
set_option linter.unusedVariables false
set_option linter.unusedSimpArgs false
open Go.RowKit Go.Proofs.YtnbljcgdgblgoaaW.PrintWords Go.Proofs.Ytnbljcgdgblgoaa.P
structure Gr (n : Nat) (es : List E) (q : Int) : Prop where
 n1 : 1 ≤ n
 n6 : n ≤ 6
 hes : ∀ e ∈ es, EOk n e
 hel : es.length ≤ 12
 hj : Joined n es
 hq : 0 ≤ q ∧ q < n
theorem Gr.of {n : Nat} {es : List E} {q : Int} (h : GOk (n : Int) es) (hq : 0 ≤ q ∧ q < n) : Gr n es q := by
 obtain ⟨h1, _, h3⟩ := h
 unfold EsOk at h1
 exact ⟨by omega, by omega, h1.2.2.2, h1.2.2.1, h3, hq⟩
end Go.Proofs.Ytnbljcgdgblgoaa.Cf
end

section
namespace Go.Proofs.Ytnbljcgdgblgoaa.Cf
set_option linter.unusedVariables false
set_option linter.unusedSimpArgs false
open Go.RowKit Go.Proofs.YtnbljcgdgblgoaaW.PrintWords Go.Proofs.YtnbljcgdgblgoaaW.PrintMore Go.Proofs.Ytnbljcgdgblgoaa.P
theorem multE_alt {n : Int} {e : E} (h : EOk n e) {a b : Int} (hab : a ≠ b) : multE a b e = if e.f0 = mn a b ∧ e.f1 = mx a b then 1 else 0 := by
 unfold EOk at h
 unfold multE mn mx
 by_cases c : b < a
 ·rw [if_pos c, if_neg (show ¬ a < b by omega)]
  by_cases x : e.f0 = b ∧ e.f1 = a
  ·rw [if_pos (.inr x), if_pos x]
  ·rw [if_neg (by omega), if_neg x]
 ·rw [if_neg c, if_pos (show a < b by omega)]
  by_cases x : e.f0 = a ∧ e.f1 = b
  ·rw [if_pos (.inl x), if_pos x]
  ·rw [if_neg (by omega), if_neg x]
theorem mult_self {n : Int} {es : List E} (hes : ∀ e ∈ es, EOk n e) (a : Int) : mult es a a = 0 := by
 apply sumE_zero
 intro e he
 have h := hes e he
 unfold EOk at h
 unfold multE
 rw [if_neg (by omega)]
theorem mult_drop {es : List E} {i : Nat} (h : i < es.length) (a b : Int) : mult (es.drop i) a b = multE a b es[i] + mult (es.drop (i + 1)) a b := by
 rw [List.drop_eq_getElem_cons h]
 exact sumE_cons _ _ _
theorem specMult_l0 (n : Int) (es : List E) (hes : ∀ e ∈ es, EOk n e) (hel : es.length ≤ 12) (a b : Int) (hab : a ≠ b) : ∀ (d i : Nat) (c : Int), i + d = es.length → 0 ≤ c → c ≤ i → Ep (fun k => spec_Multiplicity.l0 k a b c es (es.length : Int) (i : Int)) (· = c + mult (es.drop i) a b) := by
 intro d
 induction d with
 | zero =>
  intro i c hi h0 h1
  refine Ep.up ?_
  simp only [spec_Multiplicity.l0]
  refine Ep.neg (by omega) (Ep.now ?_)
  rw [List.drop_of_length_le (by omega)]
  simp [mult, sumE]
 | succ d ih =>
  intro i c hi h0 h1
  have hlt : i < es.length := by omega
  have hk := hes _ (List.getElem_mem hlt)
  refine Ep.up ?_
  simp only [spec_Multiplicity.l0]
  refine Ep.pos (by omega) (Ep.pos (by omega) (Ep.pos (by omega) ?_))
  rw [rdE_get hlt, wrap_succ (by omega), wrap_id (x := c + 1) (by omega) (by omega), mult_drop hlt, multE_alt hk hab]
  refine Ep.ite (fun h => Ep.ite (fun h2 => ?_) (fun h2 => ?_)) (fun h => ?_)
  ·rw [if_pos ⟨h, h2⟩]
   refine (ih (i + 1) (c + 1) (by omega) (by omega) (by omega)).mono ?_
   rintro _ rfl
   omega
  ·rw [if_neg (fun x => h2 x.2)]
   refine (ih (i + 1) c (by omega) (by omega) (by omega)).mono ?_
   rintro _ rfl
   omega
  ·rw [if_neg (fun x => h x.1)]
   refine (ih (i + 1) c (by omega) (by omega) (by omega)).mono ?_
   rintro _ rfl
   omega
theorem l02Vert_eq (n : Int) (es : List E) (v : Int) : spec_l02Vert.f n es v = some (decide (0 ≤ v ∧ v < n)) := by
 unfold spec_l02Vert.f
 by_cases h : v ≥ 0
 ·rw [if_pos h]
  have : (0 ≤ v ∧ v < n) ↔ v < n := ⟨fun x => x.2, fun x => ⟨h, x⟩⟩
  simp only [this]
 ·rw [if_neg h]
  have : ¬ (0 ≤ v ∧ v < n) := fun x => h x.1
  simp only [this, decide_false]
theorem specMult (n : Int) (es : List E) (hes : ∀ e ∈ es, EOk n e) (hel : es.length ≤ 12) (a b : Int) (ha : 0 ≤ a ∧ a < n) (hb : 0 ≤ b ∧ b < n) : Ep (fun k => spec_Multiplicity.f k n es a b) (· = mult es a b) := by
 simp only [spec_Multiplicity.f]
 refine Ep.bind0 (l02Vert_eq _ _ _) (Ep.pos (by simpa using ha) (Ep.bind0 (l02Vert_eq _ _ _) (Ep.pos (by simpa using hb) ?_)))
 refine Ep.up ?_
 simp only [spec_Multiplicity.j0]
 refine Ep.ite (fun h => Ep.now ?_) (fun h => ?_)
 ·have : a = b := by simpa using h
  rw [this, mult_self hes]
 ·have hab : a ≠ b := by simpa using h
  refine (specMult_l0 n es hes hel a b hab es.length 0 0 (by omega) (by omega) (by omega)).mono ?_
  rintro _ rfl
  simp
theorem implMult_l0 (n : Int) (es : List E) (hes : ∀ e ∈ es, EOk n e) (hel : es.length ≤ 12) (a b : Int) (hab : a ≠ b) : ∀ (d i : Nat) (c : Int), i + d = es.length → 0 ≤ c → c ≤ i → Ep (fun k => impl_Multiplicity.l0 k a b c es (es.length : Int) (i : Int)) (· = c + mult (es.drop i) a b) := by
 intro d
 induction d with
 | zero =>
  intro i c hi h0 h1
  refine Ep.up ?_
  simp only [impl_Multiplicity.l0]
  refine Ep.neg (by omega) (Ep.now ?_)
  rw [List.drop_of_length_le (by omega)]
  simp [mult, sumE]
 | succ d ih =>
  intro i c hi h0 h1
  have hlt : i < es.length := by omega
  have hk := hes _ (List.getElem_mem hlt)
  refine Ep.up ?_
  simp only [impl_Multiplicity.l0]
  refine Ep.pos (by omega) (Ep.pos (by omega) (Ep.pos (by omega) ?_))
  rw [rdE_get hlt, wrap_succ (by omega), wrap_id (x := c + 1) (by omega) (by omega), mult_drop hlt, multE_alt hk hab]
  refine Ep.ite (fun h => Ep.ite (fun h2 => ?_) (fun h2 => ?_)) (fun h => ?_)
  ·rw [if_pos ⟨h, h2⟩]
   refine (ih (i + 1) (c + 1) (by omega) (by omega) (by omega)).mono ?_
   rintro _ rfl
   omega
  ·rw [if_neg (fun x => h2 x.2)]
   refine (ih (i + 1) c (by omega) (by omega) (by omega)).mono ?_
   rintro _ rfl
   omega
  ·rw [if_neg (fun x => h x.1)]
   refine (ih (i + 1) c (by omega) (by omega) (by omega)).mono ?_
   rintro _ rfl
   omega
theorem implMult (n : Int) (es : List E) (hes : ∀ e ∈ es, EOk n e) (hel : es.length ≤ 12) (a b : Int) (ha : 0 ≤ a ∧ a < n) (hb : 0 ≤ b ∧ b < n) : Ep (fun k => impl_Multiplicity.f k n es a b) (· = mult es a b) := by
 simp only [impl_Multiplicity.f]
 refine Ep.neg (by unfold mn; split <;> omega) (Ep.neg (by unfold mx; split <;> omega) ?_)
 refine Ep.up ?_
 simp only [impl_Multiplicity.j0]
 refine Ep.ite (fun h => Ep.now ?_) (fun h => ?_)
 ·have : a = b := by simpa using h
  rw [this, mult_self hes]
 ·have hab : a ≠ b := by simpa using h
  refine (implMult_l0 n es hes hel a b hab es.length 0 0 (by omega) (by omega) (by omega)).mono ?_
  rintro _ rfl
  simp
def idxF (x : Int) : List Int → Nat → Int
 | [], _ => -1
 | a :: r, i => if x = a then i else idxF x r (i + 1)
theorem idxF_drop {l : List Int} {i : Nat} (h : i < l.length) (x : Int) (j : Nat) : idxF x (l.drop i) j = if x = l[i] then (j : Int) else idxF x (l.drop (i + 1)) (j + 1) := by
 rw [List.drop_eq_getElem_cons h]
 rfl
theorem idxF_mem (x : Int) : ∀ (l : List Int) (i : Nat), 0 ≤ idxF x l i ↔ x ∈ l
 | [], i => by simp [idxF]
 | a :: r, i => by
  unfold idxF
  by_cases h : x = a
  ·rw [if_pos h, h]; simp
  ·rw [if_neg h, idxF_mem x r (i + 1)]; simp [h]
theorem index_l0 (l : List Int) (x : Int) (hl : l.length ≤ 1048576) : ∀ (d i : Nat), i + d = l.length → Ep (fun k => slices_Index_int_int.l0 k l x (l.length : Int) (i : Int)) (· = idxF x (l.drop i) i) := by
 intro d
 induction d with
 | zero =>
  intro i hi
  refine Ep.up ?_
  simp only [slices_Index_int_int.l0]
  refine Ep.neg (by omega) (Ep.now ?_)
  rw [List.drop_of_length_le (by omega)]
  rfl
 | succ d ih =>
  intro i hi
  have hlt : i < l.length := by omega
  refine Ep.up ?_
  simp only [slices_Index_int_int.l0]
  refine Ep.pos (by omega) (Ep.pos (by omega) (Ep.pos (by omega) ?_))
  rw [rd_get hlt, wrap_succ (by omega), idxF_drop hlt]
  refine Ep.ite (fun h => Ep.now ?_) (fun h => ?_)
  ·rw [if_pos h]
  ·rw [if_neg h]
   exact ih (i + 1) (by omega)
theorem index_ok (l : List Int) (x : Int) (hl : l.length ≤ 1048576) : Ep (fun k => slices_Index_int_int.f k l x) (· = idxF x l 0) := by
 have := index_l0 l x hl l.length 0 (by omega)
 simp only [slices_Index_int_int.f]
 exact this
theorem contains_ok (l : List Int) (x : Int) (hl : l.length ≤ 1048576) : Ep (fun k => slices_Contains_int_int.f k l x) (· = decide (x ∈ l)) := by
 simp only [slices_Contains_int_int.f]
 refine Ep.bind (index_ok l x hl) ?_
 rintro _ rfl
 refine Ep.now ?_
 have := idxF_mem x l 0
 simp only [ge_iff_le, this]
theorem burnSum_bd {es : List E} (hel : es.length ≤ 12) (v : Int) : ∀ (b : List Int), 0 ≤ burnSum es b v ∧ burnSum es b v ≤ 12 * b.length
 | [] => by simp [burnSum]
 | a :: r => by
  have ih := burnSum_bd hel v r
  have h0 := mult_nonneg es v a
  have h1 := mult_le es v a
  unfold burnSum at ih ⊢
  rw [List.map_cons, List.sum_cons, List.length_cons]
  omega
def BRep (n : Nat) (x : List Bool) (b : List Int) : Prop := x.length = n ∧ ∀ w : Nat, w < n → rdOf false x (w : Int) = decide ((w : Int) ∈ b)
theorem BRep.push {n : Nat} {x : List Bool} {b : List Int} (h : BRep n x b) {v : Nat} (hv : v < n) : BRep n (x.set v true) (b ++ [(v : Int)]) := by
 refine ⟨by rw [List.length_set]; exact h.1, fun w hw => ?_⟩
 have := h.2 w hw
 simp only [rdOf, Int.toNat_natCast, List.getD_eq_getElem?_getD] at this ⊢
 by_cases e : v = w
 ·subst e
  rw [List.getElem?_set_self (by have := h.1; omega)]
  simp
 ·rw [List.getElem?_set_ne e, this]
  have : ¬ (w : Int) = v := by omega
  simp [this]
theorem BRep.start {n : Nat} {q : Int} (h0 : 0 ≤ q) (h1 : q < n) : BRep n ((List.replicate n false).set q.toNat true) [q] := by
 have h : BRep n (List.replicate n false) [] := ⟨by simp, fun w hw => by simp [rdOf, hw]⟩
 have := h.push (v := q.toNat) (by omega)
 have e : ((q.toNat : Nat) : Int) = q := by omega
 rw [e] at this
 exact this
theorem specBurn_l2 {n : Nat} {es : List E} {q : Int} (g : Gr n es q) (d : List Int) (hd : d.length = n) (b : List Int) (hok : b.Nodup ∧ ∀ v ∈ b, 0 ≤ v ∧ v < n) (x : List Bool) (hx : BRep n x b) (v : Nat) (hv : v < n) (next : Int) {Q : List Int → Prop}
  (hk : Ep (fun k => spec_l05Burn.l1 k d b x (if (v : Int) ∉ b ∧ rd d v < burnSum es b v then (v : Int) else next) ((v : Int) - 1) (n : Int) es) Q) :
  ∀ (dd i : Nat), i + dd = n → Ep (fun k => spec_l05Burn.l2 k d b x next (v : Int) (sumN i (fun w => if (w : Int) ∈ b then mult es v w else 0)) (i : Int) (n : Int) es) Q := by
 have hn := g.n6
 have hel := g.hel
 have hxl := hx.1
 have hbd : ∀ i, i ≤ n → 0 ≤ sumN i (fun w => if (w : Int) ∈ b then mult es v w else 0) ∧ sumN i (fun w => if (w : Int) ∈ b then mult es v w else 0) ≤ i * 12 := by
  intro i hi
  have hm : ∀ w : Nat, 0 ≤ (if (w : Int) ∈ b then mult es v w else 0) ∧ (if (w : Int) ∈ b then mult es v w else 0) ≤ 12 := by
   intro w
   have h0 := mult_nonneg es v w
   have h1 := mult_le es v w
   split <;> omega
  exact ⟨sumN_nonneg fun w _ => (hm w).1, sumN_le_const fun w _ => (hm w).2⟩
 intro dd
 induction dd with
 | zero =>
  intro i hi
  obtain rfl : i = n := by omega
  rw [sum_pick (mult es v) i b hok.1 hok.2]
  show Ep (fun k => spec_l05Burn.l2 k d b x next (v : Int) (burnSum es b v) (i : Int) (i : Int) es) Q
  refine Ep.up ?_
  simp only [spec_l05Burn.l2]
  rw [wrap_id (x := (v : Int) - 1) (by omega) (by omega)]
  refine Ep.neg (by omega) (Ep.pos (by omega) (Ep.pos (by omega) ?_))
  rw [hx.2 v hv]
  refine Ep.ite (fun h => ?_) (fun h => ?_)
  ·have h' : (v : Int) ∈ b := by simpa using h
   rw [if_neg (fun y => y.1 h')] at hk
   exact hk
  ·have h' : (v : Int) ∉ b := by simpa using h
   refine Ep.pos (by omega) (Ep.ite (fun h2 => ?_) (fun h2 => ?_))
   ·rw [if_pos ⟨h', h2⟩] at hk
    exact hk
   ·rw [if_neg (fun y => h2 y.2)] at hk
    exact hk
 | succ dd ih =>
  intro i hi
  have hb := hbd i (by omega)
  have hb1 := hbd (i + 1) (by omega)
  have ih' := ih (i + 1) (by omega)
  simp only [sumN] at ih' hb1
  refine Ep.up ?_
  simp only [spec_l05Burn.l2]
  refine Ep.pos (by omega) (Ep.pos (by omega) (Ep.pos (by omega) ?_))
  rw [hx.2 i (by omega), wrap_succ (by omega)]
  refine Ep.ite (fun h => ?_) (fun h => ?_)
  ·have h' : (i : Int) ∈ b := by simpa using h
   rw [if_pos h'] at ih' hb1
   refine Ep.bind (specMult n es g.hes hel v i (by omega) (by omega)) ?_
   rintro _ rfl
   rw [wrap_id (by omega) (by omega)]
   exact ih'
  ·have h' : (i : Int) ∉ b := by simpa using h
   rw [if_neg h', Int.add_zero] at ih'
   exact ih'
theorem specBurn_l1 {n : Nat} {es : List E} {q : Int} (g : Gr n es q) (d : List Int) (hd : d.length = n) (b : List Int) (hok : b.Nodup ∧ ∀ v ∈ b, 0 ≤ v ∧ v < n) (x : List Bool) (hx : BRep n x b) {Q : List Int → Prop}
  (hk : Ep (fun k => spec_l05Burn.l1 k d b x (nextB es (rd d) b n 0) (-1) (n : Int) es) Q) :
  ∀ i : Nat, i ≤ n → Ep (fun k => spec_l05Burn.l1 k d b x (nextB es (rd d) b (n - i) i) ((i : Int) - 1) (n : Int) es) Q := by
 have hn := g.n6
 intro i
 induction i with
 | zero => intro _; exact hk
 | succ i ih =>
  intro hi
  have ih' := ih (by omega)
  obtain ⟨m, hm⟩ : ∃ m, n - i = m + 1 := ⟨n - i - 1, by omega⟩
  have hm2 : n - (i + 1) = m := by omega
  rw [hm] at ih'
  unfold nextB at ih'
  rw [hm2, show (((i + 1 : Nat) : Int) - 1) = (i : Int) by omega]
  refine Ep.up ?_
  simp only [spec_l05Burn.l1]
  refine Ep.pos (by omega) ?_
  exact specBurn_l2 g d hd b hok x hx i (by omega) _ ih' n 0 (by omega)
theorem specBurn_l0 {n : Nat} {es : List E} {q : Int} (g : Gr n es q) (d : List Int) (hd : d.length = n) : ∀ (k : Nat) (b : List Int) (x : List Bool), n + 1 ≤ b.length + k → Burn n es (rd d) q b → BRep n x b → Ep (fun f => spec_l05Burn.l0 f d b x (n : Int) es) (· = burnW n es (rd d) k b) := by
 have hn := g.n6
 intro k
 induction k with
 | zero =>
  intro b x hl hb _
  have := hb.len g.hq
  omega
 | succ k ih =>
  intro b x hl hb hx
  have hok := hb.ok g.hq
  have hlen := hb.len g.hq
  have hxl := hx.1
  refine Ep.up ?_
  simp only [spec_l05Burn.l0]
  rw [wrap_id (x := (n : Int) - 1) (by omega) (by omega)]
  have h1 := specBurn_l1 (Q := (· = burnW n es (rd d) (k + 1) b)) g d hd b ⟨hok.1, hok.2.1⟩ x hx ?_ n (Nat.le_refl _)
  ·rw [Nat.sub_self] at h1
   exact h1
  ·unfold burnW
   have hnx := nextB_ok es (rd d) b n 0
   generalize nextB es (rd d) b n 0 = v at hnx ⊢
   refine Ep.up ?_
   simp only [spec_l05Burn.l1]
   refine Ep.neg (by omega) (Ep.ite (fun h => Ep.now ?_) (fun h => ?_))
   ·rw [if_pos h]
   ·rw [if_neg h]
    rcases hnx with ⟨h2, _⟩ | ⟨h2, h3, h4, h5⟩
    ·omega
    ·obtain ⟨v, rfl⟩ := Int.eq_ofNat_of_zero_le (a := v) (by omega)
     refine Ep.pos (by omega) (Ep.pos (by omega) (Ep.pos (by omega) ?_))
     exact ih _ _ (by simp; omega) (hb.step (by omega) (by omega) h4 h5) (hx.push (by omega))
theorem specBurn {n : Nat} {es : List E} {q : Int} (g : Gr n es q) (d : List Int) (hd : d.length = n) : Ep (fun k => spec_l05Burn.f k (n : Int) es d q) (· = burnF n es (rd d) q) := by
 have hn := g.n6
 have hq := g.hq
 simp only [spec_l05Burn.f]
 refine Ep.pos (by omega) (Ep.pos (by omega) (Ep.bind0 rfl (Ep.pos (by omega) (Ep.pos (by simp; omega) ?_))))
 exact specBurn_l0 g d hd n [q] _ (by simp; omega) .start (BRep.start hq.1 hq.2)
theorem implBurn_l2 {n : Nat} {es : List E} {q : Int} (g : Gr n es q) (d : List Int) (hd : d.length = n) (b : List Int) (hok : b.Nodup ∧ ∀ v ∈ b, 0 ≤ v ∧ v < n) (hbl : b.length ≤ n) (v : Nat) (hv : v < n) {Q : List Int → Prop}
  (hk : Ep (fun k => impl_burn.l1 k d b (if (v : Int) ∉ b ∧ rd d v < burnSum es b v then (v : Int) else -1) ((v + 1 : Nat) : Int) (n : Int) es) Q) :
  ∀ (dd i : Nat), i + dd = b.length → Ep (fun k => impl_burn.l2 k d b (-1) (v : Int) (burnSum es (b.take i) v) b (b.length : Int) (i : Int) (n : Int) es) Q := by
 have hn := g.n6
 have hel := g.hel
 intro dd
 induction dd with
 | zero =>
  intro i hi
  rw [List.take_of_length_le (by omega)]
  refine Ep.up ?_
  simp only [impl_burn.l2]
  have hw := wrap_succ (i := v) (by omega)
  rw [hw]
  refine Ep.neg (by omega) ?_
  refine Ep.bind (contains_ok b v (by omega)) ?_
  rintro _ rfl
  refine Ep.ite (fun h => ?_) (fun h => ?_)
  ·have h' : (v : Int) ∈ b := by simpa using h
   rw [if_neg (fun y => y.1 h')] at hk
   exact hk
  ·have h' : (v : Int) ∉ b := by simpa using h
   refine Ep.pos (by omega) (Ep.pos (by omega) (Ep.ite (fun h2 => ?_) (fun h2 => ?_)))
   ·rw [if_pos ⟨h', h2⟩] at hk
    exact hk
   ·rw [if_neg (fun y => h2 y.2)] at hk
    exact hk
 | succ dd ih =>
  intro i hi
  have hlt : i < b.length := by omega
  have hbi := hok.2 _ (List.getElem_mem hlt)
  have hb := burnSum_bd hel v (b.take i)
  have hml := mult_le es v b[i]
  have hm0 := mult_nonneg es v b[i]
  rw [List.length_take] at hb
  have e : burnSum es (b.take (i + 1)) v = burnSum es (b.take i) v + mult es v b[i] := by
   unfold burnSum
   rw [List.take_succ_eq_append_getElem hlt, List.map_append, List.sum_append]
   simp
  have ih' := ih (i + 1) (by omega)
  rw [e] at ih'
  refine Ep.up ?_
  simp only [impl_burn.l2]
  refine Ep.pos (by omega) (Ep.pos (by omega) (Ep.pos (by omega) ?_))
  rw [rd_get hlt, wrap_succ (by omega)]
  refine Ep.bind (implMult n es g.hes hel v b[i] (by omega) hbi) ?_
  rintro _ rfl
  rw [wrap_id (by omega) (by omega)]
  exact ih'
theorem implBurn_l1 {n : Nat} {es : List E} {q : Int} (g : Gr n es q) (d : List Int) (hd : d.length = n) (b : List Int) (hok : b.Nodup ∧ ∀ v ∈ b, 0 ≤ v ∧ v < n) (hbl : b.length ≤ n) {Q : List Int → Prop}
  (hk : Ep (fun k => if nextB es (rd d) b n 0 < 0 then some b else (if b.length < 17592186044416 then impl_burn.l0 k d (b ++ [nextB es (rd d) b n 0]) (n : Int) es else none)) Q) :
  ∀ (dd i : Nat), i + dd = n → nextB es (rd d) b n 0 = nextB es (rd d) b dd i → Ep (fun k => impl_burn.l1 k d b (-1) (i : Int) (n : Int) es) Q := by
 have hn := g.n6
 intro dd
 induction dd with
 | zero =>
  intro i hi he
  rw [he] at hk
  simp only [nextB] at hk
  refine Ep.up ?_
  simp only [impl_burn.l1]
  refine Ep.neg (by omega) (Ep.up ?_)
  simp only [impl_burn.j2]
  exact Ep.neg (by simp) hk
 | succ dd ih =>
  intro i hi he
  refine Ep.up ?_
  simp only [impl_burn.l1]
  refine Ep.pos (by omega) (Ep.up ?_)
  simp only [impl_burn.j2]
  refine Ep.pos (by simp) ?_
  have h2 := implBurn_l2 (Q := Q) g d hd b hok hbl i (by omega) ?_ b.length 0 (by omega)
  ·simpa [burnSum] using h2
  ·replace he : nextB es (rd d) b n 0 = (if (i : Int) ∉ b ∧ rd d i < burnSum es b i then (i : Int) else nextB es (rd d) b dd (i + 1)) := he
   by_cases h : (i : Int) ∉ b ∧ rd d i < burnSum es b i
   ·rw [if_pos h] at he ⊢
    rw [he] at hk
    refine Ep.up ?_
    simp only [impl_burn.l1]
    refine Ep.ite (fun _ => ?_) (fun _ => ?_)
    ·refine Ep.up ?_
     simp only [impl_burn.j2]
     exact Ep.neg (by simp) hk
    ·refine Ep.up ?_
     simp only [impl_burn.j2]
     exact Ep.neg (by simp) hk
   ·rw [if_neg h] at he ⊢
    exact ih (i + 1) (by omega) he
theorem implBurn_l0 {n : Nat} {es : List E} {q : Int} (g : Gr n es q) (d : List Int) (hd : d.length = n) : ∀ (k : Nat) (b : List Int), n + 1 ≤ b.length + k → Burn n es (rd d) q b → Ep (fun f => impl_burn.l0 f d b (n : Int) es) (· = burnW n es (rd d) k b) := by
 have hn := g.n6
 intro k
 induction k with
 | zero =>
  intro b hl hb
  have := hb.len g.hq
  omega
 | succ k ih =>
  intro b hl hb
  have hok := hb.ok g.hq
  have hlen := hb.len g.hq
  refine Ep.up ?_
  simp only [impl_burn.l0]
  refine implBurn_l1 (Q := (· = burnW n es (rd d) (k + 1) b)) g d hd b ⟨hok.1, hok.2.1⟩ hlen ?_ n 0 (by omega) rfl
  unfold burnW
  have hnx := nextB_ok es (rd d) b n 0
  generalize nextB es (rd d) b n 0 = v at hnx ⊢
  refine Ep.ite (fun h => Ep.now ?_) (fun h => ?_)
  ·rw [if_pos h]
  ·rw [if_neg h]
   rcases hnx with ⟨h2, _⟩ | ⟨h2, h3, h4, h5⟩
   ·omega
   ·exact Ep.pos (by omega) (ih _ (by simp; omega) (hb.step (by omega) (by omega) h4 h5))
theorem implBurn {n : Nat} {es : List E} {q : Int} (g : Gr n es q) (d : List Int) (hd : d.length = n) : Ep (fun k => impl_burn.f k (n : Int) es d q) (· = burnF n es (rd d) q) := by
 have hn := g.n6
 simp only [impl_burn.f]
 exact implBurn_l0 g d hd n [q] (by simp; omega) .start
end Go.Proofs.Ytnbljcgdgblgoaa.Cf
end

section
namespace Go.Proofs.Ytnbljcgdgblgoaa.Cf
set_option linter.unusedVariables false
set_option linter.unusedSimpArgs false
open Go.RowKit Go.Proofs.YtnbljcgdgblgoaaW.PrintWords
def alt : Nat → (Nat → Int) → Int
 | 0, _ => 0
 | n + 1, g => g 0 - alt n fun i => g (i + 1)
theorem alt_congr : ∀ {n : Nat} {f g : Nat → Int}, (∀ i, i < n → f i = g i) → alt n f = alt n g
 | 0, _, _, _ => rfl
 | n + 1, f, g, h => by
  unfold alt
  rw [h 0 (by omega), alt_congr (n := n) (f := fun i => f (i + 1)) (g := fun i => g (i + 1)) fun i hi => h (i + 1) (by omega)]
theorem alt_bd {n : Nat} {g : Nat → Int} {C : Int} (h : ∀ i, i < n → -C ≤ g i ∧ g i ≤ C) : -(n * C) ≤ alt n g ∧ alt n g ≤ n * C := by
 induction n generalizing g with
 | zero => simp [alt]
 | succ n ih =>
  have h0 := h 0 (by omega)
  have h1 := ih (g := fun i => g (i + 1)) fun i hi => h (i + 1) (by omega)
  unfold alt
  have e : ((n + 1 : Nat) : Int) * C = n * C + C := by rw [Int.natCast_add, Int.add_mul]; simp
  omega
def ent (M : List (List Int)) (r c : Int) : Int := rd (M.getD r.toNat []) c
def detL (M : List (List Int)) : List Int → List Int → Int
 | [], _ => 1
 | r :: rs, cs => alt cs.length fun i => ent M r (cs.getD i 0) * detL M rs (cs.eraseIdx i)
theorem mul_bd {a b A B : Int} (ha : -A ≤ a ∧ a ≤ A) (hb : -B ≤ b ∧ b ≤ B) : -(A * B) ≤ a * b ∧ a * b ≤ A * B := by
 have hA : 0 ≤ A := by omega
 have h1 : a.natAbs * b.natAbs ≤ A.natAbs * B.natAbs := Nat.mul_le_mul (by omega) (by omega)
 rw [← Int.natAbs_mul, ← Int.natAbs_mul] at h1
 have h2 : 0 ≤ A * B := Int.mul_nonneg (by omega) (by omega)
 omega
theorem detL_bd {M : List (List Int)} {B : Int} (hB : 0 ≤ B) (hM : ∀ r c, -B ≤ ent M r c ∧ ent M r c ≤ B) : ∀ (rs cs : List Int), cs.length ≤ 6 → -((6 * B) ^ rs.length) ≤ detL M rs cs ∧ detL M rs cs ≤ (6 * B) ^ rs.length
 | [], cs, _ => by simp [detL]
 | r :: rs, cs, hc => by
  have h := alt_bd (n := cs.length) (g := fun i => ent M r (cs.getD i 0) * detL M rs (cs.eraseIdx i)) (C := B * (6 * B) ^ rs.length) fun i hi =>
   mul_bd (hM _ _) (detL_bd hB hM rs (cs.eraseIdx i) (by have := List.length_eraseIdx_le cs i; omega))
  have hp : 0 ≤ B * (6 * B) ^ rs.length := Int.mul_nonneg hB (Int.pow_nonneg (by omega))
  have e : (6 * B) ^ (r :: rs).length = 6 * (B * (6 * B) ^ rs.length) := by
   rw [List.length_cons, Int.pow_succ, Int.mul_comm, Int.mul_assoc]
  have h6 : (cs.length : Int) * (B * (6 * B) ^ rs.length) ≤ 6 * (B * (6 * B) ^ rs.length) := Int.mul_le_mul_of_nonneg_right (by omega) hp
  rw [e]
  unfold detL
  omega
abbrev Col := Int → Int
def z0 : Col := fun _ => 0
def detC : List Int → List Col → Int
 | [], _ => 1
 | r :: rs, cs => alt cs.length fun i => (cs.getD i z0) r * detC rs (cs.eraseIdx i)
end Go.Proofs.Ytnbljcgdgblgoaa.Cf
end

section
namespace Go.Proofs.Ytnbljcgdgblgoaa.Cf
set_option linter.unusedVariables false
set_option linter.unusedSimpArgs false
open Go.RowKit Go.Proofs.YtnbljcgdgblgoaaW.PrintWords Go.Proofs.Ytnbljcgdgblgoaa.P
def bitsB (m i : Nat) : List Int := ((List.range i).filter fun j => m.testBit j).map fun j : Nat => (j : Int)
def bitsL (m : Nat) : List Int := bitsB m 6
theorem bm_on : ∀ (m : Fin 64) (i : Fin 7), (shr .i64 (m.val : Int) (i.val : Int) > 0 ∧ i.val < 6) ∨ (¬ shr .i64 (m.val : Int) (i.val : Int) > 0 ∧ bitsB m.val i.val = bitsL m.val) := by decide
theorem bm_val : ∀ (m : Fin 64) (i : Fin 6), (Go.bits .and .i64 (shr .i64 (m.val : Int) (i.val : Int)) 1 = 1 ∧ m.val.testBit i.val = true) ∨ (Go.bits .and .i64 (shr .i64 (m.val : Int) (i.val : Int)) 1 = 0 ∧ m.val.testBit i.val = false) := by decide
theorem bitsB_succ (m i : Nat) : bitsB m (i + 1) = bitsB m i ++ (if m.testBit i then [(i : Int)] else []) := by
 unfold bitsB
 rw [List.range_succ, List.filter_append, List.map_append]
 congr 1
 by_cases c : m.testBit i = true
 ·rw [if_pos c, List.filter_cons_of_pos (by simpa using c)]; rfl
 ·rw [if_neg c, List.filter_cons_of_neg (by simpa using c)]; rfl
theorem bitsB_len (m i : Nat) : (bitsB m i).length ≤ i := by
 unfold bitsB
 rw [List.length_map]
 exact Nat.le_trans (List.length_filter_le _ _) (by simp)
theorem bm_drop : ∀ (m : Fin 64) (i : Fin 6), m.val.testBit i.val = true → ∃ m' : Fin 64, Go.bits .andNot .i64 (m.val : Int) (shl .i64 1 (i.val : Int)) = (m'.val : Int) ∧ bitsL m'.val = (bitsL m.val).eraseIdx (bitsB m.val i.val).length ∧ (bitsL m.val)[(bitsB m.val i.val).length]? = some (i.val : Int) ∧ m'.val ≤ m.val := by decide
theorem bm_all : ∀ (m : Fin 64) (i : Fin 7), m.val < 2 ^ i.val → bitsB m.val i.val = bitsL m.val := by decide
theorem bm_full0 : ∀ i : Fin 7, bitsL (2 ^ i.val - 1) = (List.range i.val).map (fun j : Nat => (j : Int)) ∧ shl .i64 1 (i.val : Int) = ((2 ^ i.val : Nat) : Int) ∧ (2 ^ i.val - 1 : Nat) < 64 ∧ 0 < 2 ^ i.val := by decide
theorem bm_full {i : Nat} (hi : i < 7) : bitsL (2 ^ i - 1) = (List.range i).map (fun j : Nat => (j : Int)) ∧ wrap64 (shl .i64 1 (i : Int) - 1) = ((2 ^ i - 1 : Nat) : Int) ∧ shl .i64 1 (i : Int) = ((2 ^ i : Nat) : Int) ∧ (2 ^ i - 1 : Nat) < 64 := by
 obtain ⟨h1, h2, h3, h4⟩ := bm_full0 ⟨i, hi⟩
 simp only at h1 h2 h3 h4
 refine ⟨h1, ?_, h2, h3⟩
 rw [h2, wrap_id (by omega) (by omega)]
 omega
theorem implBits_l0 {m : Nat} (hm : m < 64) : ∀ (d i : Nat), i + d = 6 → Ep (fun k => impl_bitsOf.l0 k (m : Int) (bitsB m i) (i : Int)) (· = bitsL m) := by
 intro d
 induction d with
 | zero =>
  intro i hi
  refine Ep.up ?_
  simp only [impl_bitsOf.l0]
  rcases bm_on ⟨m, hm⟩ ⟨i, by omega⟩ with ⟨_, h⟩ | ⟨h1, h2⟩
  ·exact absurd h (by simp; omega)
  ·exact Ep.pos (by omega) (Ep.neg h1 (Ep.now h2))
 | succ d ih =>
  intro i hi
  have h := ih (i + 1) (by omega)
  rw [bitsB_succ] at h
  refine Ep.up ?_
  simp only [impl_bitsOf.l0]
  rcases bm_on ⟨m, hm⟩ ⟨i, by omega⟩ with ⟨h1, _⟩ | ⟨h1, h2⟩
  ·refine Ep.pos (by omega) (Ep.pos h1 ?_)
   rw [wrap_succ (by omega)]
   rcases bm_val ⟨m, hm⟩ ⟨i, by omega⟩ with ⟨b1, b2⟩ | ⟨b1, b2⟩
   ·rw [if_pos b2] at h
    exact Ep.pos b1 (Ep.pos (by have := bitsB_len m i; omega) h)
   ·have b1' : Go.bits .and .i64 (shr .i64 (m : Int) (i : Int)) 1 = 0 := b1
    rw [if_neg (by simpa using b2), List.append_nil] at h
    exact Ep.neg (by rw [b1']; omega) h
  ·exact Ep.pos (by omega) (Ep.neg h1 (Ep.now h2))
theorem implBits {m : Nat} (hm : m < 64) : Ep (fun k => impl_bitsOf.f k (m : Int)) (· = bitsL m) := implBits_l0 hm 6 0 rfl
end Go.Proofs.Ytnbljcgdgblgoaa.Cf
end

section
namespace Go.Proofs.Ytnbljcgdgblgoaa.Cf
set_option linter.unusedVariables false
set_option linter.unusedSimpArgs false
open Go.RowKit Go.Proofs.YtnbljcgdgblgoaaW.PrintWords
def lapM (es : List E) (r c : Int) : Int := if r = c then val es r else - mult es r c
def dlap (es : List E) (vs : List Int) : Int := detC vs (vs.map fun c r => lapM es r c)
theorem getD_map {α β : Type} (f : α → β) (l : List α) (i : Nat) (d : α) (d' : β) (h : i < l.length) : (l.map f).getD i d' = f (l.getD i d) := by
 rw [List.getD_eq_getElem?_getD, List.getElem?_map, List.getD_eq_getElem?_getD, List.getElem?_eq_getElem h]
 rfl
theorem getD_mem {α : Type} {l : List α} {i : Nat} (d : α) (h : i < l.length) : l.getD i d ∈ l := by
 rw [List.getD_eq_getElem?_getD, List.getElem?_eq_getElem h]
 exact List.getElem_mem h
theorem map_eraseIdx {α β : Type} (f : α → β) (l : List α) (i : Nat) : (l.map f).eraseIdx i = (l.eraseIdx i).map f := by
 apply List.ext_getElem?
 intro k
 simp only [List.getElem?_eraseIdx, List.getElem?_map]
 split <;> rfl
end Go.Proofs.Ytnbljcgdgblgoaa.Cf
end

section
namespace Go.Proofs.Ytnbljcgdgblgoaa.Cf
set_option linter.unusedVariables false
set_option linter.unusedSimpArgs false
open Go.RowKit Go.Proofs.YtnbljcgdgblgoaaW.PrintWords Go.Proofs.Ytnbljcgdgblgoaa.P
def Mod (l : List Int) : Prop := ∀ x ∈ l, -1000000000 ≤ x ∧ x ≤ 1000000000
theorem implSum_l0 (l : List Int) (hl : l.length ≤ 1048576) (hm : Mod l) : ∀ (d i : Nat) (a : Int), i + d = l.length → -(1000000000 * (i : Int)) ≤ a → a ≤ 1000000000 * (i : Int) → Ep (fun k => impl_sumOf.l0 k a l (l.length : Int) (i : Int)) (· = a + (l.drop i).sum) := by
 intro d
 induction d with
 | zero =>
  intro i a hi h0 h1
  refine Ep.up ?_
  simp only [impl_sumOf.l0]
  refine Ep.neg (by omega) (Ep.now ?_)
  rw [List.drop_of_length_le (by omega)]
  simp
 | succ d ih =>
  intro i a hi h0 h1
  have hlt : i < l.length := by omega
  have hx := hm _ (List.getElem_mem hlt)
  refine Ep.up ?_
  simp only [impl_sumOf.l0]
  refine Ep.pos (by omega) (Ep.pos (by omega) (Ep.pos (by omega) ?_))
  rw [rd_get hlt, wrap_succ (by omega), wrap_id (by omega) (by omega), List.drop_eq_getElem_cons hlt]
  refine (ih (i + 1) _ (by omega) (by omega) (by omega)).mono ?_
  rintro _ rfl
  rw [List.sum_cons]
  omega
theorem implSum (l : List Int) (hl : l.length ≤ 1048576) (hm : Mod l) : Ep (fun k => impl_sumOf.f k l) (· = l.sum) := by
 simp only [impl_sumOf.f]
 refine (implSum_l0 l hl hm l.length 0 0 (by omega) (by omega) (by omega)).mono ?_
 rintro _ rfl
 simp
theorem specSum_l0 (l : List Int) (hl : l.length ≤ 1048576) (hm : Mod l) : ∀ (d i : Nat) (a : Int), i + d = l.length → -(1000000000 * (i : Int)) ≤ a → a ≤ 1000000000 * (i : Int) → Ep (fun k => spec_DegreeOf.l0 k a l (l.length : Int) (i : Int)) (· = a + (l.drop i).sum) := by
 intro d
 induction d with
 | zero =>
  intro i a hi h0 h1
  refine Ep.up ?_
  simp only [spec_DegreeOf.l0]
  refine Ep.neg (by omega) (Ep.now ?_)
  rw [List.drop_of_length_le (by omega)]
  simp
 | succ d ih =>
  intro i a hi h0 h1
  have hlt : i < l.length := by omega
  have hx := hm _ (List.getElem_mem hlt)
  refine Ep.up ?_
  simp only [spec_DegreeOf.l0]
  refine Ep.pos (by omega) (Ep.pos (by omega) (Ep.pos (by omega) ?_))
  rw [rd_get hlt, wrap_succ (by omega), wrap_id (by omega) (by omega), List.drop_eq_getElem_cons hlt]
  refine (ih (i + 1) _ (by omega) (by omega) (by omega)).mono ?_
  rintro _ rfl
  rw [List.sum_cons]
  omega
theorem specSum (l : List Int) (hl : l.length ≤ 1048576) (hm : Mod l) : Ep (fun k => spec_DegreeOf.f k l) (· = l.sum) := by
 simp only [spec_DegreeOf.f]
 refine (specSum_l0 l hl hm l.length 0 0 (by omega) (by omega) (by omega)).mono ?_
 rintro _ rfl
 simp
end Go.Proofs.Ytnbljcgdgblgoaa.Cf
end

section
namespace Go.Proofs.Ytnbljcgdgblgoaa.P
open Go.RowKit Go.Proofs.YtnbljcgdgblgoaaW.PrintWords Go.Proofs.YtnbljcgdgblgoaaW.PrintLast Go.Proofs.YtnbljcgdgblgoaaW.PrintMore
attribute [local go_sem] max2_int min2_int max_two min_two max_three min_three max_four min_four
set_option linter.unusedVariables false
set_option linter.unusedSimpArgs false
mutual
def spec_FullPile.j0 : Nat → Int → Bool → Int → List (S57) → Option (List Int)
 | 0, _, _, _, _ => none
 | k + 1, x1, g9, aM, aJ => if g9 = true then (some ([] : List Int)) else (spec_FullPile.l0 k x1 (([] : List Int)) 0 aM aJ)
def spec_FullPile.l0 : Nat → Int → List Int → Int → Int → List (S57) → Option (List Int)
 | 0, _, _, _, _, _ => none
 | k + 1, x1, x5, x6, aM, aJ => if x6 < aM then (if x6 = x1 then (if x5.length < 17592186044416 then (spec_FullPile.l0 k x1 (x5 ++ [0]) (wrap64 (x6 + 1)) aM aJ) else (none)) else ((spec_Valence.f k aM aJ x6).bind fun kP => (if x5.length < 17592186044416 then (spec_FullPile.l0 k x1 (x5 ++ [wrap64 (kP - 1)]) (wrap64 (x6 + 1)) aM aJ) else (none)))) else (some x5)
end
def spec_FullPile.f (k : Nat) (aD : Int) (aC : List (S57)) (a1 : Int) : Option (List Int) := (spec_GraphOk.f k aD aC).bind fun bA => (if bA = true then ((spec_l01In.f a1 0 (wrap64 (aD - 1))).bind fun bL => (spec_FullPile.j0 k a1 (!bL) aD aC)) else (spec_FullPile.j0 k a1 true aD aC))
theorem spec_FullPile.mono_l : ∀ k, (∀ y0 y1 y2 y3, LeO (spec_FullPile.j0 k y0 y1 y2 y3) (spec_FullPile.j0 (k + 1) y0 y1 y2 y3)) ∧ (∀ y0 y1 y2 y3 y4, LeO (spec_FullPile.l0 k y0 y1 y2 y3 y4) (spec_FullPile.l0 (k + 1) y0 y1 y2 y3 y4))
 | 0 => ⟨fun _ _ _ _ r h => by simp [spec_FullPile.j0] at h, fun _ _ _ _ _ r h => by simp [spec_FullPile.l0] at h⟩
 | k + 1 => by
  obtain ⟨ih0, ih1⟩ := spec_FullPile.mono_l k
  refine ⟨?_, ?_⟩
  ·intro y0 y1 y2 y3
   unfold spec_FullPile.j0
   exact zm9
  ·intro y0 y1 y2 y3 y4
   unfold spec_FullPile.l0
   exact zm9
theorem spec_FullPile.mono : ∀ a0 a1 a2 k, LeO (spec_FullPile.f k a0 a1 a2) (spec_FullPile.f (k + 1) a0 a1 a2) := by
 intro a0 a1 a2 k; obtain ⟨ih0, ih1⟩ := spec_FullPile.mono_l k; unfold spec_FullPile.f; exact zm9
theorem spec_FullPile.calls (k : Nat) (aD : Int) (aH : Option Addr) (aG : Nat) (aC : List (S57)) (a1 : Int) (r : List Int) (w : World) (hr0_1 : Kd.C k57 w aH aC.length aC) (hc0_1 : aC.length ≤ aG) (h : spec_FullPile.f k aD aC a1 = some r) :
  Calls Try.prog 102 #[.agg #[.int .i64 aD, .slice aH aC.length aG], .int .i64 a1] w fun e w' => ∃ v0_ : Value, e = .returned (v0_) ∧ Kd.R (Kd.int .i64) 3 w' w.heap.size (fun _ => True) v0_ r ∧ Below w.heap.size w w' := by
 have hu25 := Try.underlying25; have bM := zK_ hr0_1; have bG := zK_ hc0_1; clear hr0_1 hc0_1; have HB := zK_ (Below.refl w.heap.size w); have H : ((spec_GraphOk.f k aD aC).bind fun bA => (if bA = true then ((spec_l01In.f a1 0 (wrap64 (aD - 1))).bind fun bL => (spec_FullPile.j0 k a1 (!bL) aD aC)) else (spec_FullPile.j0 k a1 true aD aC))) = some r := h; clear h; have HC3 := zK_ H; clear H; go_enter Try.func102, Try.ntmps102; (go_upto_region 1 with (first | ((with_reducible refine gate_dst (N := 2) rfl ?_); refine box_event ?hg (N := 2) ?hd (cs := #[.int .i64 aD, .slice aH aC.length aG]) (t := 25) ?hr ?_; (case hd => rfl); (case hg => rfl); (case hr => exact zz9); intro aE hg w4 hbox hb; have n_ := zA4 (below_step zz1 hb) hbox (zz10 : w.heap.size ≤ aE) (zz10 : w.heap.size ≤ aE); clear HB; obtain ⟨HB, aA, GW101, GE101⟩ := n_; clear hb hbox hg))); (try simp only [Act.put, List.setIfInBounds_toArray, List.set_cons_zero, List.set_cons_succ]); go_cut [17] (fun v17 wc => ∃ (kq : Nat) (aU : Bool), v17 = .bool aU ∧ Aside0 (spec_FullPile.j0 kq a1 aU aD aC = some r) ∧ Aside0 (kq ≤ k) ∧ Aside0 (wc.heap[aE]? = some (.cells #[.int .i64 aD, (.slice aH aC.length aG)] 25 (0, 0))) ∧ Aside0 (Below w.heap.size w wc))
 case first =>
  have H := HC3.out; clear HC3; obtain ⟨bA, A50, H⟩ := zO_ H; (try dsimp only at H); have A5 := zK_ A50; clear A50; by_cases c6 : bA = true; rotate_left
  ·replace c6 := Bool.eq_false_iff.mpr c6; subst c6; rw [if_neg (show ¬ (false = true) by decide)] at H; have H' := zK_ H; clear H; have eZ := zC20 aA; have eY := zC21 aA; have eW := blk_frozen aA.out 0; have eV := blk_frozen aA.out 1; (go_wp2_with (first | ((with_reducible refine gate_callee (f := 55) rfl ?_); refine goesL_ (some 8) rfl rfl Try.func55 (by kernel_rfl) rfl #[.agg #[.int .i64 aD, .slice aH aC.length aG]] rfl zz4 ?_; (with_reducible refine (spec_GraphOk.calls k aD _ _ aC false _ ?side1 ?side2 A5.out).mono ?_); (case side1 => exact zz6); (case side2 => exact bG.out); rintro e w12 ⟨rfl, hb⟩; refine ⟨_, rfl, ?_⟩; have n_ := zA2 (blk_below (g := aE) (o := .cells #[.int .i64 aD, .slice aH aC.length aG] 25 (0, 0)) zz2 hb) (below_step zz0 hb); clear aA HB; obtain ⟨aA, HB⟩ := n_; clear hb))); (go_meet); case rel => exact ⟨_, (true), zz5, H', ⟨by first | omega | exact Nat.le_refl _⟩, ⟨zz2⟩, ⟨zz0⟩⟩
  subst c6; rw [if_pos rfl] at H; obtain ⟨bL, A70, H⟩ := zO_ H; (try dsimp only at H); have A7 := zK_ A70; clear A70; have H' := zK_ H; clear H; have gA := zC20 aA; have f9 := zC21 aA; have f4 := blk_frozen aA.out 0; have f3 := blk_frozen aA.out 1; (go_wp2_with (first | ((with_reducible refine gate_callee (f := 55) rfl ?_); refine goesL_ (some 8) rfl rfl Try.func55 (by kernel_rfl) rfl #[.agg #[.int .i64 aD, .slice aH aC.length aG]] rfl zz4 ?_; (with_reducible refine (spec_GraphOk.calls k aD _ _ aC true _ ?side1 ?side2 A5.out).mono ?_); (case side1 => exact zz6); (case side2 => exact bG.out); rintro e w9 ⟨rfl, hb⟩; refine ⟨_, rfl, ?_⟩; have n_ := zA2 (blk_below (g := aE) (o := .cells #[.int .i64 aD, .slice aH aC.length aG] 25 (0, 0)) zz2 hb) (below_step zz0 hb); clear aA HB; obtain ⟨aA, HB⟩ := n_; clear hb; have cN := zC20 aA; have cM := zC21 aA; have cK := blk_frozen aA.out 0; have cJ := blk_frozen aA.out 1) | (go_at_call 56; (with_reducible refine (spec_l01In.calls a1 0 (wrap64 (aD - 1)) bL _ A7.out).mono ?_); rintro e w' ⟨rfl, ⟨nd, rfl⟩⟩))); (go_meet); case rel => exact ⟨_, (!bL), zz5, H', ⟨by first | omega | exact Nat.le_refl _⟩, ⟨zz2⟩, ⟨zz0⟩⟩
 case rest =>
  clear HC3; (try clear c1); (try clear p2); (try clear c5); (try clear c6); (try clear p6); (try clear c10); (try clear cN); (try clear cM); (try clear eZ); (try clear eY); (try clear gA); (try clear f9); (try clear cK); (try clear cJ); (try clear eW); (try clear eV); (try clear f4); (try clear f3); obtain ⟨kq, aU, rfl, HA, HJ2, aA, HB⟩ := hcut
  cases kq with
  | zero => exact absurd HA.out (by simp [spec_FullPile.j0])
  | succ kj2 =>
   have H := HA.out; clear HA; simp only [spec_FullPile.j0] at H; by_cases c13 : aU = true
   ·subst c13; rw [if_pos rfl] at H; obtain rfl := Option.some.inj H; go_wp2; go_ret; exact ⟨_, zz7, zz42, zz0⟩
   replace c13 := Bool.eq_false_iff.mpr c13; subst c13; rw [if_neg (show ¬ (false = true) by decide)] at H; obtain ⟨kI, hy_⟩ : ∃ y_ : List Int, y_ = (([] : List Int)) := ⟨_, rfl⟩; (replace H : (spec_FullPile.l0 kj2 a1 kI 0 aD aC) = some r := zzY); have jP := zK_ hy_; clear hy_; have H' := zK_ H; clear H; (go_wp2_with (first | ((with_reducible refine gate_dst (N := 18) rfl ?_); refine Kd.R_lit (Kd.int .i64) _ 3 ?hg (N := 18) ?hd (xs := ([] : List Int)) (inner := []) (ok := fun _ => True) (okp := fun _ => True) ?hr ?hp (fun _ hk => hk) trivial (Below.refl _ _) (Nat.le_refl _) (by simp) ?_; (case hd => rfl); (case hg => rfl); (case hr => exact zz9); (case hp => exact (Reps.none _ _)); intro v105 w14 ho15 hb hg_ hnew_; clear hg_ hnew_; (first | rw [← jP.out] at ho15 | (simp only [Int.reduceToNat] at ho15; rw [← jP.out] at ho15)); have n_ := zA3 (Kd.R_lower ho15 (below_size zz0)) (blk_below (g := aE) (o := .cells #[.int .i64 aD, .slice aH aC.length aG] 25 (0, 0)) zz2 hb) (below_step zz0 hb); clear aA HB; obtain ⟨gU, aA, HB⟩ := n_; clear hb ho15))); (go_loopg [5, 6] kj2 (fun kq v5 v6 w' => ∃ (bN : List Int) (fB : Int), v6 = .int .i64 fB ∧ Aside0 (spec_FullPile.l0 kq a1 bN fB aD aC = some r) ∧ Aside0 (kq ≤ kj2) ∧ Aside0 (Kd.R (Kd.int .i64) 3 w' w.heap.size (fun _ => True) v5 bN) ∧ Aside0 (w'.heap[aE]? = some (.cells #[.int .i64 aD, (.slice aH aC.length aG)] 25 (0, 0))) ∧ Aside0 (Below w.heap.size w w'))); case atStart => exact ⟨(kI), (0), zz5, H', ⟨Nat.le_refl _⟩, ⟨by (with_reducible repeat (first | apply Kd.R_alloc | apply Kd.R_drewN | apply Kd.R_drew)); exact gU.out⟩, ⟨zz2⟩, ⟨zz0⟩⟩
   case round =>
    clear H'; (try clear c1); (try clear p2); (try clear c5); (try clear c6); (try clear p6); (try clear c10); (try clear c13); (try clear cN); (try clear cM); (try clear eZ); (try clear eY); (try clear gA); (try clear f9); (try clear cK); (try clear cJ); (try clear eW); (try clear eV); (try clear f4); (try clear f3); (try clear p2); (try clear p6); obtain ⟨bN, fB, rfl, HA, HK2, bY, aA, HB⟩ := hrel
    cases gk with
    | zero => exact absurd HA.out (by simp [spec_FullPile.l0])
    | succ k2 =>
     have H := HA.out; clear HA; simp only [spec_FullPile.l0] at H; by_cases c16 : fB < aD; rotate_left
     ·rw [if_neg c16] at H; have iE := decide_eq_false c16; clear c16; obtain rfl := Option.some.inj H; have iP := zC20 aA; have iO := zC21 aA; have iL := blk_frozen aA.out 0; have iK := blk_frozen aA.out 1; go_wp2; go_ret; exact ⟨_, zz7, zz23, zz0⟩
     rw [if_pos c16] at H; have iE := decide_eq_true c16; clear c16; by_cases c17 : fB = a1
     ·rw [if_pos c17] at H; have jN : (fB == a1) = true := beq_iff_eq.mpr c17; have nZ : (fB != a1) = false := bne_eq_false_iff_eq.mpr c17; clear c17; by_cases c18 : bN.length < 17592186044416; rotate_left
      ·rw [if_neg c18] at H; exact absurd H (by simp)
      rw [if_pos c18] at H; have tR := zK_ c18; clear c18; obtain ⟨i1, hy_⟩ : ∃ y_ : List Int, y_ = (bN ++ [0]) := ⟨_, rfl⟩; (replace H : (spec_FullPile.l0 k2 a1 i1 (wrap64 (fB + 1)) aD aC) = some r := zzY); have kM := zK_ hy_; clear hy_; have H' := zK_ H; clear H; have jI := zC20 aA; have jH := zC21 aA; have jA := blk_frozen aA.out 0; have i9 := blk_frozen aA.out 1; (go_wp2_with (first | ((with_reducible refine gate_builtin (b := .append) (xs := #[.tmp 28, .tmp 29]) rfl ?_); at_builtin; refine Kd.R_append (Kd.int .i64) (w0 := w) w.heap.size rfl (.tmp 28) (.tmp 29) 26 3 (.int .i64 0) 8 rfl Try.underlying26 info3 rfl (by decide) (by omega) u5 bN 0 [.int .i64 0] (fun _ => True) (fun _ => False) rfl rfl ?aP (fun _ hk => hk.elim) ?aF ?aO ?aB ?aS ?aL ?_; (case aP => exact rfl); (case aB => exact zz0); (case aF => exact (fun _ _ => trivial)); (case aO => exact zz23); (case aS => exact (below_size zz0)); (case aL => have := tR.out; omega); intro v108 w20 ho hb hg hat; rw [← kM.out] at ho; have n_ := zA3 (blk_grown (g := aE) (o := .cells #[.int .i64 aD, .slice aH aC.length aG] 25 (0, 0)) zz2 hg (Kd.R_ne bY.out aA.out (by decide))) hb ho; clear aA HB bY; obtain ⟨aA, HB, n7⟩ := n_; clear ho hb hg hat))); go_roundg k2; (case measure => have := HJ2.out; have := HK2.out; omega); case rel => exact ⟨(i1), (wrap64 (fB + 1)), zz5, H', ⟨by have := HJ2.out; have := HK2.out; omega⟩, ⟨by (with_reducible repeat (first | apply Kd.R_alloc | apply Kd.R_drewN | apply Kd.R_drew)); exact n7.out⟩, ⟨zz2⟩, ⟨zz0⟩⟩
     rw [if_neg c17] at H; have jN : (fB == a1) = false := beq_eq_false_iff_ne.mpr c17; have nZ : (fB != a1) = true := bne_iff_ne.mpr c17; obtain ⟨kP, A210, H⟩ := zO_ H; (try dsimp only at H); have A21 := zK_ A210; clear A210; by_cases c22 : bN.length < 17592186044416; rotate_left
     ·rw [if_neg c22] at H; exact absurd H (by simp)
     rw [if_pos c22] at H; have tO := zK_ c22; clear c22; obtain ⟨rV, hy_⟩ : ∃ y_ : List Int, y_ = (bN ++ [wrap64 (kP - 1)]) := ⟨_, rfl⟩; (replace H : (spec_FullPile.l0 k2 a1 rV (wrap64 (fB + 1)) aD aC) = some r := zzY); have tK := zK_ hy_; clear hy_; have H' := zK_ H; clear H; have kD := zC20 aA; have kC := zC21 aA; have j7 := blk_frozen aA.out 0; have j6 := blk_frozen aA.out 1; (go_wp2_with (first | ((with_reducible refine gate_callee (f := 73) rfl ?_); refine goesL_ (some 34) rfl rfl Try.func73 (by kernel_rfl) rfl #[.agg #[.int .i64 aD, .slice aH aC.length aG], .int .i64 fB] rfl zz4 ?_; (with_reducible refine (spec_Valence.calls k2 aD _ _ aC fB kP _ ?side1 ?side2 A21.out).mono ?_); (case side1 => exact zz6); (case side2 => exact bG.out); rintro e w24 ⟨rfl, hb⟩; refine ⟨_, rfl, ?_⟩; have n_ := zA3 (Kd.R_below zz23 hb) (blk_below (g := aE) (o := .cells #[.int .i64 aD, .slice aH aC.length aG] 25 (0, 0)) zz2 hb) (below_step zz0 hb); clear bY aA HB; obtain ⟨bY, aA, HB⟩ := n_; clear hb) | ((with_reducible refine gate_builtin (b := .append) (xs := #[.tmp 31, .tmp 36]) rfl ?_); at_builtin; refine Kd.R_append (Kd.int .i64) (w0 := w) w.heap.size rfl (.tmp 31) (.tmp 36) 26 3 (.int .i64 0) 8 rfl Try.underlying26 info3 rfl (by decide) (by omega) u5 bN (wrap64 (kP - 1)) [.int .i64 (wrap64 (kP - 1))] (fun _ => True) (fun _ => False) rfl rfl ?aP (fun _ hk => hk.elim) ?aF ?aO ?aB ?aS ?aL ?_; (case aP => exact rfl); (case aB => exact zz0); (case aF => exact (fun _ _ => trivial)); (case aO => exact zz23); (case aS => exact (below_size zz0)); (case aL => have := tO.out; omega); intro v112 w25 ho hb hg hat; rw [← tK.out] at ho; have n_ := zA3 (blk_grown (g := aE) (o := .cells #[.int .i64 aD, .slice aH aC.length aG] 25 (0, 0)) zz2 hg (Kd.R_ne bY.out aA.out (by decide))) hb ho; clear aA HB bY; obtain ⟨aA, HB, tW⟩ := n_; clear ho hb hg hat))); go_roundg k2; (case measure => have := HJ2.out; have := HK2.out; omega); case rel => exact ⟨(rV), (wrap64 (fB + 1)), zz5, H', ⟨by have := HJ2.out; have := HK2.out; omega⟩, ⟨by (with_reducible repeat (first | apply Kd.R_alloc | apply Kd.R_drewN | apply Kd.R_drew)); exact tW.out⟩, ⟨zz2⟩, ⟨zz0⟩⟩
end Go.Proofs.Ytnbljcgdgblgoaa.P
end

section
namespace Go.Proofs.Ytnbljcgdgblgoaa.P
open Go.RowKit Go.Proofs.YtnbljcgdgblgoaaW.PrintWords Go.Proofs.YtnbljcgdgblgoaaW.PrintLast Go.Proofs.YtnbljcgdgblgoaaW.PrintMore
attribute [local go_sem] max2_int min2_int max_two min_two max_three min_three max_four min_four
set_option linter.unusedVariables false
set_option linter.unusedSimpArgs false
def impl_FullPile.l0 : Nat → Int → List Int → Int → Int → Int → List (S57) → Option (List Int)
 | 0, _, _, _, _, _, _ => none
 | k + 1, x1, x5, iY, gZ, aM, aJ => if gZ < iY then (if gZ = x1 then (impl_FullPile.l0 k x1 x5 iY (wrap64 (gZ + 1)) aM aJ) else ((impl_Valence.f k aM aJ gZ).bind fun dP => (if 0 ≤ gZ then (if gZ < (x5.length : Int) then (impl_FullPile.l0 k x1 (x5.set (gZ : Int).toNat (wrap64 (dP - 1))) iY (wrap64 (gZ + 1)) aM aJ) else (none)) else (none)))) else (some x5)
def impl_FullPile.f (k : Nat) (aD : Int) (aC : List (S57)) (a1 : Int) : Option (List Int) := (impl_isVertex.f aD aC a1).bind fun bA => (if bA = true then (if 0 ≤ aD then (if (aD : Int).toNat ≤ 35184372088832 then ((some (List.replicate (aD : Int).toNat 0 : List Int)).bind fun fK => (impl_FullPile.l0 k a1 fK (fK.length : Int) 0 aD aC)) else (none)) else (none)) else (some ([] : List Int)))
theorem impl_FullPile.mono_l : ∀ k, (∀ y0 y1 y2 y3 y4 y5, LeO (impl_FullPile.l0 k y0 y1 y2 y3 y4 y5) (impl_FullPile.l0 (k + 1) y0 y1 y2 y3 y4 y5))
 | 0 => fun _ _ _ _ _ _ r h => by simp [impl_FullPile.l0] at h
 | k + 1 => by
  have ih0 := impl_FullPile.mono_l k
  ·intro y0 y1 y2 y3 y4 y5
   unfold impl_FullPile.l0
   exact zm14
theorem impl_FullPile.mono : ∀ a0 a1 a2 k, LeO (impl_FullPile.f k a0 a1 a2) (impl_FullPile.f (k + 1) a0 a1 a2) := by
 intro a0 a1 a2 k; have ih0 := impl_FullPile.mono_l k; unfold impl_FullPile.f; exact zm14
theorem impl_FullPile.calls (k : Nat) (aD : Int) (aH : Option Addr) (aG : Nat) (aC : List (S57)) (a1 : Int) (r : List Int) (w : World) (hr0_1 : Kd.C k57 w aH aC.length aC) (hc0_1 : aC.length ≤ aG) (h : impl_FullPile.f k aD aC a1 = some r) :
  Calls Try.prog 68 #[.agg #[.int .i64 aD, .slice aH aC.length aG], .int .i64 a1] w fun e w' => ∃ v0_ : Value, e = .returned (v0_) ∧ Kd.R (Kd.int .i64) 3 w' w.heap.size (fun _ => True) v0_ r ∧ Below w.heap.size w w' := by
 have hu25 := Try.underlying25; have bM := zK_ hr0_1; have bG := zK_ hc0_1; clear hr0_1 hc0_1; have HB := zK_ (Below.refl w.heap.size w); have H : ((impl_isVertex.f aD aC a1).bind fun bA => (if bA = true then (if 0 ≤ aD then (if (aD : Int).toNat ≤ 35184372088832 then ((some (List.replicate (aD : Int).toNat 0 : List Int)).bind fun fK => (impl_FullPile.l0 k a1 fK (fK.length : Int) 0 aD aC)) else (none)) else (none)) else (some ([] : List Int)))) = some r := h; clear h; obtain ⟨bA, A30, H⟩ := zO_ H; (try dsimp only at H); have A3 := zK_ A30; clear A30; by_cases c4 : bA = true; rotate_left
 ·replace c4 := Bool.eq_false_iff.mpr c4; subst c4; rw [if_neg (show ¬ (false = true) by decide)] at H; obtain rfl := Option.some.inj H; go_enter Try.func68, Try.ntmps68; (go_wp2_with (first | ((with_reducible refine gate_dst (N := 2) rfl ?_); refine box_event ?hg (N := 2) ?hd (cs := #[.int .i64 aD, .slice aH aC.length aG]) (t := 25) ?hr ?_; (case hd => rfl); (case hg => rfl); (case hr => exact zz9); intro aE hg w24 hbox hb; have n_ := zA4 (below_step zz1 hb) hbox (zz10 : w.heap.size ≤ aE) (zz10 : w.heap.size ≤ aE); clear HB; obtain ⟨HB, aA, GW101, GE101⟩ := n_; clear hb hbox hg; have lP := zC20 aA; have lO := zC21 aA; have lH := blk_frozen aA.out 0; have lG := blk_frozen aA.out 1) | ((with_reducible refine gate_callee (f := 47) rfl ?_); refine goesL_ (some 9) rfl rfl Try.func47 (by kernel_rfl) rfl #[.agg #[.int .i64 aD, .slice aH aC.length aG], .int .i64 a1] rfl zz4 ?_; (with_reducible refine (impl_isVertex.calls aD _ _ aC a1 false _ ?side1 ?side2 A3.out).mono ?_); (case side1 => exact zz6); (case side2 => exact bG.out); rintro e w26 ⟨rfl, hb⟩; refine ⟨_, rfl, ?_⟩; have n_ := zA2 (blk_below (g := aE) (o := .cells #[.int .i64 aD, .slice aH aC.length aG] 25 (0, 0)) zz2 hb) (below_step zz0 hb); clear aA HB; obtain ⟨aA, HB⟩ := n_; clear hb))); go_ret; exact ⟨_, zz7, zz42, zz0⟩
 subst c4; rw [if_pos rfl] at H; by_cases c5 : 0 ≤ aD; rotate_left
 ·rw [if_neg c5] at H; exact absurd H (by simp)
 rw [if_pos c5] at H; have dF := eq_true c5; have kJ : decide (0 ≤ aD) = true := decide_eq_true c5; clear c5; by_cases c6 : (aD : Int).toNat ≤ 35184372088832; rotate_left
 ·rw [if_neg c6] at H; exact absurd H (by simp)
 rw [if_pos c6] at H; have eN := eq_true c6; have kS : decide ((aD : Int).toNat ≤ 35184372088832) = true := decide_eq_true c6; clear c6; obtain ⟨fK, hy_⟩ : ∃ y_ : List Int, y_ = (List.replicate (aD : Int).toNat 0) := ⟨_, rfl⟩; (replace H : (impl_FullPile.l0 k a1 fK (fK.length : Int) 0 aD aC) = some r := zzY); have jZ := zK_ hy_; clear hy_; have H' := zK_ H; clear H; go_enter Try.func68, Try.ntmps68; (go_wp2_with (first | ((with_reducible refine gate_dst (N := 2) rfl ?_); refine box_event ?hg (N := 2) ?hd (cs := #[.int .i64 aD, .slice aH aC.length aG]) (t := 25) ?hr ?_; (case hd => rfl); (case hg => rfl); (case hr => exact zz9); intro aE hg w7 hbox hb; have n_ := zA4 (below_step zz1 hb) hbox (zz10 : w.heap.size ≤ aE) (zz10 : w.heap.size ≤ aE); clear HB; obtain ⟨HB, aA, GW101, GE101⟩ := n_; clear hb hbox hg; have gA := zC20 aA; have f9 := zC21 aA; have f4 := blk_frozen aA.out 0; have f3 := blk_frozen aA.out 1) | ((with_reducible refine gate_callee (f := 47) rfl ?_); refine goesL_ (some 9) rfl rfl Try.func47 (by kernel_rfl) rfl #[.agg #[.int .i64 aD, .slice aH aC.length aG], .int .i64 a1] rfl zz4 ?_; (with_reducible refine (impl_isVertex.calls aD _ _ aC a1 true _ ?side1 ?side2 A3.out).mono ?_); (case side1 => exact zz6); (case side2 => exact bG.out); rintro e w9 ⟨rfl, hb⟩; refine ⟨_, rfl, ?_⟩; have n_ := zA2 (blk_below (g := aE) (o := .cells #[.int .i64 aD, .slice aH aC.length aG] 25 (0, 0)) zz2 hb) (below_step zz0 hb); clear aA HB; obtain ⟨aA, HB⟩ := n_; clear hb; have cN := zC20 aA; have cM := zC21 aA; have cK := blk_frozen aA.out 0; have cJ := blk_frozen aA.out 1) | ((with_reducible refine gate_dst (N := 13) rfl ?_); refine Kd.R_make (Kd.int .i64) _ 3 rfl (N := 13) rfl 26 _ _ rfl aD rfl rfl Try.underlying26 (.int .i64 0) 8 info3 rfl (by decide) (by omega) 0 (ok := fun _ => True) (okp := fun _ => True) rfl (fun _ hk => hk) trivial (of_decide_eq_true zz3) (Nat.le_trans (Nat.mul_le_mul_right _ (of_decide_eq_true zz3 : aD.toNat ≤ 35184372088832)) (by omega)) (Below.refl _ _) (Nat.le_refl _) ?_; intro v104 w11 ho12 hb hg_ hnew_; clear hg_ hnew_; (first | rw [← jZ.out] at ho12 | (simp only [Int.reduceToNat] at ho12; rw [← jZ.out] at ho12)); have n_ := zA3 (Kd.R_lower ho12 (below_size zz0)) (blk_below (g := aE) (o := .cells #[.int .i64 aD, .slice aH aC.length aG] 25 (0, 0)) zz2 hb) (below_step zz0 hb); clear aA HB; obtain ⟨eT, aA, HB⟩ := n_; clear hb ho12; obtain ⟨Ao13, co13, rH⟩ := Kd.R_slice eT.out; subst rH))); (go_loopg [16] k (fun kq v16 w' => ∃ (aN : List Int) (eO : Int), v16 = .int .i64 eO ∧ Aside0 (impl_FullPile.l0 kq a1 aN (fK.length : Int) eO aD aC = some r) ∧ Aside0 (kq ≤ k) ∧ Aside0 (Kd.R (Kd.int .i64) 3 w' w.heap.size (fun _ => True) (.slice Ao13 fK.length co13) aN) ∧ Aside0 (w'.heap[aE]? = some (.cells #[.int .i64 aD, (.slice aH aC.length aG)] 25 (0, 0))) ∧ Aside0 (Below w.heap.size w w'))); case atStart => exact ⟨(fK), (0), zz5, H', ⟨Nat.le_refl _⟩, ⟨by (with_reducible repeat (first | apply Kd.R_alloc | apply Kd.R_drewN | apply Kd.R_drew)); exact eT.out⟩, ⟨zz2⟩, ⟨zz0⟩⟩
 case round =>
  clear H'; (try clear p2); (try clear c4); (try clear c5); (try clear dF); (try clear kJ); (try clear c6); (try clear eN); (try clear kS); (try clear cN); (try clear cM); (try clear gA); (try clear f9); (try clear cK); (try clear cJ); (try clear f4); (try clear f3); obtain ⟨aN, eO, rfl, HA, HK1, bY, aA, HB⟩ := hrel; have dO := (Kd.R_reads' bY.out).1; rw [dO] at bY; (try simp only [dO]); (try simp only [dO] at aA)
  cases gk with
  | zero => exact absurd HA.out (by simp [impl_FullPile.l0])
  | succ k1 =>
   have H := HA.out; clear HA; simp only [impl_FullPile.l0] at H; by_cases c14 : eO < (fK.length : Int); rotate_left
   ·rw [if_neg c14] at H; have gE := decide_eq_false c14; (try (have iH := gE; first | rw [dO] at iH | rw [← dO] at iH)); clear c14; obtain rfl := Option.some.inj H; go_wp2; go_ret; exact ⟨_, zz7, zz23, zz0⟩
   rw [if_pos c14] at H; have gE := decide_eq_true c14; (try (have iH := gE; first | rw [dO] at iH | rw [← dO] at iH)); clear c14; by_cases c15 : eO = a1
   ·rw [if_pos c15] at H; have iF : (eO == a1) = true := beq_iff_eq.mpr c15; have pG : (eO != a1) = false := bne_eq_false_iff_eq.mpr c15; clear c15; have H' := zK_ H; clear H; go_wp2; (try simp only [← dO]); go_roundg k1; (case measure => have := HK1.out; omega); case rel => exact ⟨(aN), (wrap64 (eO + 1)), zz5, H', ⟨zz34⟩, ⟨by (try simp only [dO]); (with_reducible repeat (first | apply Kd.R_alloc | apply Kd.R_drewN | apply Kd.R_drew)); exact bY.out⟩, ⟨by (try simp only [dO]); (with_reducible repeat (first | refine blk_drewN ?_ _ | refine blk_drew ?_ | refine blk_alloc ?_ _)); exact aA.out⟩, ⟨zz0⟩⟩
   rw [if_neg c15] at H; have iF : (eO == a1) = false := beq_eq_false_iff_ne.mpr c15; have pG : (eO != a1) = true := bne_iff_ne.mpr c15; obtain ⟨dP, A160, H⟩ := zO_ H; (try dsimp only at H); have A16 := zK_ A160; clear A160; by_cases c17 : 0 ≤ eO; rotate_left
   ·rw [if_neg c17] at H; exact absurd H (by simp)
   rw [if_pos c17] at H; have jN := decide_eq_true c17; clear c17; by_cases c18 : eO < (aN.length : Int); rotate_left
   ·rw [if_neg c18] at H; exact absurd H (by simp)
   rw [if_pos c18] at H; have iD := decide_eq_true c18; (try (have mI := iD; first | rw [dO] at mI | rw [← dO] at mI)); clear c18; obtain ⟨i1, hy_⟩ : ∃ y_ : List Int, y_ = (aN.set (eO : Int).toNat (wrap64 (dP - 1))) := ⟨_, rfl⟩; (replace H : (impl_FullPile.l0 k1 a1 i1 (fK.length : Int) (wrap64 (eO + 1)) aD aC) = some r := zzY); have kM := zK_ hy_; clear hy_; have H' := zK_ H; clear H; have kF := zC20 aA; have kE := zC21 aA; have j9 := blk_frozen aA.out 0; have j8 := blk_frozen aA.out 1; (go_wp2_with (first | ((with_reducible refine gate_callee (f := 75) rfl ?_); refine goesL_ (some 26) rfl rfl Try.func75 (by kernel_rfl) rfl #[.agg #[.int .i64 aD, .slice aH aC.length aG], .int .i64 eO] rfl zz4 ?_; (with_reducible refine (impl_Valence.calls k1 aD _ _ aC eO dP _ ?side1 ?side2 A16.out).mono ?_); (case side1 => exact zz6); (case side2 => exact bG.out); rintro e w21 ⟨rfl, hb⟩; refine ⟨_, rfl, ?_⟩; have n_ := zA3 (Kd.R_below zz23 hb) (blk_below (g := aE) (o := .cells #[.int .i64 aD, .slice aH aC.length aG] 25 (0, 0)) zz2 hb) (below_step zz0 hb); clear bY aA HB; obtain ⟨bY, aA, HB⟩ := n_; clear hb; have p19 : 0 ≤ (eO : Int) := of_decide_eq_true zz3; have q19 : (eO : Int) < ((aN.length : Int) : Int) := of_decide_eq_true zz3; obtain ⟨go19, co19, qN, sH, gl19, cl19, HG19⟩ := Kd.R_form bY.out (by omega); (first | cases qN | (injection qN with ea_ en_ ec_; (first | subst ea_ | (injection ea_ with ea_; subst ea_)); subst ec_; clear en_)); have yQ := zK_ sH; have BY := zK_ HG19; clear sH gl19 HG19; obtain ⟨wJ, xW⟩ := Kd.R_celln 0 bY.out (eO : Int) p19 q19; replace p19 := eq_true p19; replace q19 := eq_true q19; obtain ⟨hy22_, hz22_⟩ := Kd.R_celln 0 bY.out (eO : Int) (of_decide_eq_true zz3) (of_decide_eq_true zz3); have rN := Kd.R_putg bY.out (eO : Int) (wrap64 (dP - 1))) | ((with_reducible refine gate_store (t := 3) (p := 28) rfl ?_); refine store_event (t := 3) (p := 28) (v := ?vo_w23) (w1 := (w21.setCell ⟨go19, (eO : Int).toNat, none⟩ (.int .i64 (wrap64 (dP - 1))))) ?hg ?ho ?hn ?hr ?_; (case ho => rfl); (case hg => rfl); (case hn => rfl); (case hr => exact zz9); intro w23 hw; have hg : w21.grownBy w23 (some go19) := (by rw [hw]; exact rN.2); have hp_ : Kd.R (Kd.int .i64) 3 w23 w.heap.size (fun _ => True) (.slice (some ⟨go19, 0, none⟩) aN.length co13) i1 := (by rw [hw, kM.out]; exact rN.1); clear rN; have n_ := zA3 hp_ (blk_grown (g := aE) (o := .cells #[.int .i64 aD, .slice aH aC.length aG] 25 (0, 0)) zz2 hg (Kd.R_ne bY.out aA.out (by decide))) (by rw [hw]; exact below_set (HB.out) yQ.out : Below w.heap.size w w23); clear bY aA HB; obtain ⟨bY, aA, HB⟩ := n_; clear hg hw hp_))); (try simp only [← dO]); go_roundg k1; (case measure => have := HK1.out; omega); case rel => exact ⟨(i1), (wrap64 (eO + 1)), zz5, H', ⟨zz34⟩, ⟨by (try simp only [dO]); (with_reducible repeat (first | apply Kd.R_alloc | apply Kd.R_drewN | apply Kd.R_drew)); exact bY.out⟩, ⟨by (try simp only [dO]); (with_reducible repeat (first | refine blk_drewN ?_ _ | refine blk_drew ?_ | refine blk_alloc ?_ _)); exact aA.out⟩, ⟨zz0⟩⟩
def impl_plus.l0 : Nat → List Int → List Int → Int → Int → Option (List Int)
 | 0, _, _, _, _ => none
 | k + 1, x1, x5, fE, eH => if eH < fE then (if 0 ≤ eH then (if eH < (x5.length : Int) then (if eH < (x1.length : Int) then (impl_plus.l0 k x1 (x5.set (eH : Int).toNat (wrap64 ((rd x5 eH) + (rd x1 eH)))) fE (wrap64 (eH + 1))) else (none)) else (none)) else (none)) else (some x5)
def impl_plus.f (k : Nat) (l0 : List Int) (l1 : List Int) : Option (List Int) := (impl_copyInts.f l0).bind fun cZ => (impl_plus.l0 k l1 cZ (cZ.length : Int) 0)
theorem impl_plus.mono_l : ∀ k, (∀ y0 y1 y2 y3, LeO (impl_plus.l0 k y0 y1 y2 y3) (impl_plus.l0 (k + 1) y0 y1 y2 y3))
 | 0 => fun _ _ _ _ r h => by simp [impl_plus.l0] at h
 | k + 1 => by
  have ih0 := impl_plus.mono_l k
  ·intro y0 y1 y2 y3
   unfold impl_plus.l0
   exact zm0
theorem impl_plus.mono : ∀ a0 a1 k, LeO (impl_plus.f k a0 a1) (impl_plus.f (k + 1) a0 a1) := by
 intro a0 a1 k; have ih0 := impl_plus.mono_l k; unfold impl_plus.f; exact zm0
def impl_plus.T5 : Bool × List (List Nat × List Nat) := (true, [([], []), ([], []), ([0, 1], [0, 1]), ([2], [2]), ([], []), ([], []), ([4, 5], [4, 5]), ([6], [6]), ([3, 7], [3, 7]), ([0, 1, 0, 1, 2, 3, 4, 5, 6, 7, 8], [0, 1]), ([9, 8, 0, 1, 2, 3, 4, 5, 6, 7, 8], [8, 9])])
def impl_plus.B5 : List Nat := [0, 0, 3, 7, 0, 0, 48, 112, 255, 511, 1023]
theorem impl_plus.tab5 : rtab .any (opsOf Try.f69 5) = impl_plus.T5 := by kernel_rfl
theorem impl_plus.bits5 : waitsOk impl_plus.T5.2 impl_plus.B5 = true := by kernel_rfl
theorem impl_plus.calls (k : Nat) (A0 : Option Addr) (c0 : Nat) (l0 : List Int) (A1 : Option Addr) (c1 : Nat) (l1 : List Int) (r : List Int) (w : World) (hr0 : Kd.C (Kd.int .i64) w A0 l0.length l0) (hc0 : l0.length ≤ c0) (hr1 : Kd.C (Kd.int .i64) w A1 l1.length l1) (hc1 : l1.length ≤ c1) (h : impl_plus.f k l0 l1 = some r) :
  Calls Try.prog 69 #[.slice A0 l0.length c0, .slice A1 l1.length c1] w fun e w' => ∃ v0_ : Value, e = .returned (v0_) ∧ Kd.R (Kd.int .i64) 3 w' w.heap.size (fun _ => True) v0_ r ∧ Below w.heap.size w w' := by
 have HR0 := zK_ hr0; have HC0 := zK_ hc0; clear hr0 hc0; have HR1 := zK_ hr1; have HC1 := zK_ hc1; clear hr1 hc1; have HB := zK_ (Below.refl w.heap.size w); have H : ((impl_copyInts.f l0).bind fun cZ => (impl_plus.l0 k l1 cZ (cZ.length : Int) 0)) = some r := h; clear h; obtain ⟨cZ, A30, H⟩ := zO_ H; (try dsimp only at H); have A3 := zK_ A30; clear A30; have H' := zK_ H; clear H; go_enter Try.func69, Try.ntmps69; (go_wp2_with (first | ((with_reducible refine gate_callee (f := 86) rfl ?_); refine goesL_ (some 8) rfl rfl Try.func86 (by kernel_rfl) rfl #[.slice A0 l0.length c0] rfl zz4 ?_; (with_reducible refine (impl_copyInts.calls _ _ l0 cZ _ ?side1 ?side2 A3.out).mono ?_); (case side1 => exact zz26); (case side2 => exact HC0.out); rintro e w4 ⟨v102, rfl, ho0, hb⟩; refine ⟨_, rfl, ?_⟩; have n_ := zA2 (Kd.R_lower ho0 (below_size zz1)) (below_step zz1 hb); clear HB; obtain ⟨jR, HB⟩ := n_; clear ho0 hb; obtain ⟨Ao5, co5, rG⟩ := Kd.R_slice jR.out; subst rG))); (go_loopg [11] k (fun kq v11 w' => ∃ (aN : List Int) (aI : Int), v11 = .int .i64 aI ∧ Aside0 (impl_plus.l0 kq l1 aN (cZ.length : Int) aI = some r) ∧ Aside0 (kq ≤ k) ∧ Aside0 (Kd.R (Kd.int .i64) 3 w' w.heap.size (fun _ => True) (.slice Ao5 cZ.length co5) aN) ∧ Aside0 (Below w.heap.size w w'))); case atStart => exact ⟨(cZ), (0), zz5, H', ⟨Nat.le_refl _⟩, ⟨zz40⟩, ⟨zz1⟩⟩
 case round =>
  clear H'; (try clear c1); (try clear p2); obtain ⟨aN, aI, rfl, HA, HK1, bY, HB⟩ := hrel; have dO := (Kd.R_reads' bY.out).1; rw [dO] at bY; (try simp only [dO])
  cases gk with
  | zero => exact absurd HA.out (by simp [impl_plus.l0])
  | succ k1 =>
   have H := HA.out; clear HA; simp only [impl_plus.l0] at H; by_cases c6 : aI < (cZ.length : Int); rotate_left
   ·rw [if_neg c6] at H; have eN := decide_eq_false c6; (try (have jL := eN; first | rw [dO] at jL | rw [← dO] at jL)); clear c6; obtain rfl := Option.some.inj H; go_wp2; go_ret; exact ⟨_, zz7, zz23, zz1⟩
   rw [if_pos c6] at H; have eN := decide_eq_true c6; (try (have jL := eN; first | rw [dO] at jL | rw [← dO] at jL)); clear c6; by_cases c7 : 0 ≤ aI; rotate_left
   ·rw [if_neg c7] at H; exact absurd H (by simp)
   rw [if_pos c7] at H; have dL := decide_eq_true c7; clear c7; by_cases c8 : aI < (aN.length : Int); rotate_left
   ·rw [if_neg c8] at H; exact absurd H (by simp)
   rw [if_pos c8] at H; have fL := decide_eq_true c8; (try (have nV := fL; first | rw [dO] at nV | rw [← dO] at nV)); clear c8; by_cases c9 : aI < (l1.length : Int); rotate_left
   ·rw [if_neg c9] at H; exact absurd H (by simp)
   rw [if_pos c9] at H; have fJ := decide_eq_true c9; (try (have nU := fJ; first | rw [dO] at nU | rw [← dO] at nU)); clear c9; obtain ⟨lX, hy_⟩ : ∃ y_ : List Int, y_ = (aN.set (aI : Int).toNat (wrap64 ((rd aN aI) + (rd l1 aI)))) := ⟨_, rfl⟩; (replace H : (impl_plus.l0 k1 l1 lX (cZ.length : Int) (wrap64 (aI + 1))) = some r := zzY); have k6 := zK_ hy_; clear hy_; have H' := zK_ H; clear H; (try go_wp2); have n_ := zA2 (Kd.R_drew bY.out) (below_drew1 HB.out); clear bY HB; obtain ⟨bY, HB⟩ := n_; have p104 : 0 ≤ (aI : Int) := of_decide_eq_true zz3; have q104 : aI < (aN.length : Int) := of_decide_eq_true zz3; obtain ⟨dE, e104, bE⟩ := Kd.at_int (Kd.R_reads' bY.out).2.2 aI p104 q104; cases e104; replace p104 := eq_true p104; replace q104 := eq_true q104; have p105 : 0 ≤ (aI : Int) := of_decide_eq_true zz3; have q105 : aI < (l1.length : Int) := of_decide_eq_true zz3; obtain ⟨cH, e105, bF⟩ := Kd.at_int HR1.out aI p105 q105; have hw105_0 := bF; cases e105; replace bF := (HB.out.cell (World.block_lt_of_cell? w _ bF)).trans bF; replace p105 := eq_true p105; replace q105 := eq_true q105; have p10 : 0 ≤ (aI : Int) := of_decide_eq_true zz3; have q10 : (aI : Int) < ((aN.length : Int) : Int) := of_decide_eq_true zz3; obtain ⟨go10, co10, kQ, o5, gl10, cl10, HG10⟩ := Kd.R_form bY.out (by omega); (first | cases kQ | (injection kQ with ea_ en_ ec_; (first | subst ea_ | (injection ea_ with ea_; subst ea_)); subst ec_; clear en_)); have qP := zK_ o5; have tX := zK_ HG10; clear o5 gl10 HG10; (first | simp only [add_plain] at bE | skip); obtain ⟨oI, o4⟩ := Kd.R_celln 0 bY.out (aI : Int) p10 q10; replace p10 := eq_true p10; replace q10 := eq_true q10; have m5 := Kd.R_putn bY.out (aI : Int) (wrap64 ((rd aN aI) + (rd l1 aI))); rw [← k6.out] at m5; have tT := zK_ m5; clear m5; refine start_ (n := 11) (S := fun w' => w'.cell? ⟨go10, (aI).toNat, none⟩ = some (.int .i64 (rd aN aI)) ∧ w'.cell? (cH.add (aI).toNat) = some (.int .i64 (rd l1 aI))) (ds := [10]) (zM 11 0) (by kernel_rfl) rfl rfl ⟨bE, ((HB.out.cell (World.block_lt_of_cell? w _ hw105_0)).trans hw105_0)⟩ (fun hHeld => ?_); refine with_tabW impl_plus.tab5 impl_plus.bits5 (fun HT_ HW_ => ?_); generalize wr.drew = w11 at bY HB tX tT o4 bE bF oI hHeld ⊢; refine zQ 0 14 (zM 11 1) ?_
   refine zQ 1 15 (zM 11 3) ?_
   refine zQ 2 16 (zM 11 7) ?_
   refine zQ 4 18 (zM 11 23) ?_
   refine zQ 5 19 (zM 11 55) ?_
   refine zQ 6 20 (zM 11 119) ?_
   refine take_ (i := 3) (N := some 17) (v := ?_) (a' := ?_) (zM 11 127) rfl rfl (take_ofW HT_.out HW_.out (by kernel_rfl)) (fun _ _ _ h => h) (Or.inl ⟨by rfl, ?_⟩) hHeld ?_ ?_; rotate_left
   ·rintro w' ⟨s0, s1⟩; exact zzT
   rotate_left
   ·exact zzS
   refine take_ (i := 7) (N := some 21) (v := ?_) (a' := ?_) (zM 11 255) rfl rfl (take_ofW HT_.out HW_.out (by kernel_rfl)) (fun _ _ _ h => h) (Or.inl ⟨by rfl, ?_⟩) hHeld ?_ ?_; rotate_left
   ·rintro w' ⟨s0, s1⟩; exact zzT
   rotate_left
   ·exact zzS
   refine zQ 8 22 (zM 11 511) ?_
   refine zQ 9 23 (zM 11 1023) ?_
   refine last_ (i := 10) (N := none) (zM 11 2047) rfl rfl (one_of HT_.out (by kernel_rfl)) (by decide) (fun K hK => ?_); refine skip_ (w1 := ?_) (by rfl) rfl ?_ ?_; rotate_left
   ·go_simp; rfl
   refine hK.out _ _ ?_; clear hK K; refine done_ (done_of HT_.out (by kernel_rfl)) ?_; (try go_wp2); (try simp only [← dO]); go_roundg k1; (case measure => have := HK1.out; omega); case rel => exact ⟨(lX), (wrap64 (aI + 1)), zz5, H', ⟨zz34⟩, ⟨by (try simp only [dO]); (with_reducible repeat (first | apply Kd.R_alloc | apply Kd.R_drewN | apply Kd.R_drew)); exact tT.out⟩, ⟨by repeat (first | (with_reducible first | exact HB.out | apply below_alloc | apply pw_below_drewN | apply below_drew1 | refine below_set ?_ qP.out) | exact HB.out)⟩⟩
end Go.Proofs.Ytnbljcgdgblgoaa.P
end

