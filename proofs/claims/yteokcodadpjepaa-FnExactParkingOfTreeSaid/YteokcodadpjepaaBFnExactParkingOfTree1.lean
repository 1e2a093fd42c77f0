/- A part of the proof of FnExactParkingOfTree. -/
import Derived.Test.YteokcodadpjepaaBFnExactParkingOfTree0
import Derived.Deep.LoopGhost
import Derived.Test.YteokcodadpjepaaBFnExactParkingOfTreeWWords
import Derived.Test.YteokcodadpjepaaBFnExactParkingOfTreeWMore
import Derived.Laws.BitsLemmas
import Derived.StillTailTactics
section
namespace Go.Proofs.Yteokcodadpjepaa.P
open Go.RowKit Go.Proofs.YteokcodadpjepaaW.PrintWords Go.Proofs.YteokcodadpjepaaW.PrintLast Go.Proofs.YteokcodadpjepaaW.PrintMore
attribute [local go_sem] max2_int min2_int max_two min_two max_three min_three max_four min_four
set_option linter.unusedVariables false
set_option linter.unusedSimpArgs false
/-- Does the edge burn its vertex? -/
def spec_l12Walk.cond (k : Nat) (f tree lost : List Int) (i v : Int) : Option Bool := if tree.length = 0 ∧ rd lost v = rd f v then some true else spec_l02Has.f k tree i
/-- The walk: what burns, the edges taken, what each vertex has lost, the edges kept. -/
def spec_l12Walk.wk (n : Int) (es : List S74) (q : Nat) (f tree : List Int) : Nat → List Bool → List Bool → List Int → List Int → Option (List Int × List Int)
 | 0, _, _, _, _ => none
 | k + 1, bl, tk, lost, out => (spec_l12Next.f k n es bl tk).bind fun p => if p.1 < 0 then (spec_l12Sorted.f k out).bind fun s => some (s, lost.set q (-1)) else if (0 ≤ p.1 ∧ p.1 < (tk.length : Int)) ∧ (0 ≤ p.2 ∧ p.2 < (bl.length : Int)) ∧ p.2 < (lost.length : Int) ∧ p.2 < (f.length : Int) ∧ out.length ≤ 1000 then (spec_l12Walk.cond k f tree lost p.1 p.2).bind fun t => if t = true then spec_l12Walk.wk n es q f tree k (bl.set p.2.toNat true) (tk.set p.1.toNat true) lost (out ++ [p.1]) else spec_l12Walk.wk n es q f tree k bl (tk.set p.1.toNat true) (lost.set p.2.toNat (wrap64 (rd lost p.2 + 1))) out else none
def spec_l12Walk.f (k : Nat) (a0_0 : Int) (l0_1 : List S74) (a1 : Int) (l2 l3 : List Int) : Option (List Int × List Int) := if (0 ≤ a0_0 ∧ a0_0 ≤ 6) ∧ l0_1.length ≤ 12 ∧ 0 ≤ a1 ∧ a1 < a0_0 then spec_l12Walk.wk a0_0 l0_1 a1.toNat l2 l3 k ((List.replicate a0_0.toNat false).set a1.toNat true) (List.replicate l0_1.length false) (List.replicate a0_0.toNat 0) [] else none
theorem spec_l12Walk.mono_wk (n : Int) (es : List S74) (q : Nat) (f tree : List Int) : ∀ k bl tk lost out, LeO (spec_l12Walk.wk n es q f tree k bl tk lost out) (spec_l12Walk.wk n es q f tree (k + 1) bl tk lost out)
 | 0, _, _, _, _ => fun r h => by cases h
 | k + 1, bl, tk, lost, out => by
  unfold spec_l12Walk.wk spec_l12Walk.cond
  exact LeO.bind (spec_l12Next.mono _ _ _ _ k) fun p => LeO.ite (LeO.bind (spec_l12Sorted.mono _ k) fun _ => LeO.refl _) (LeO.ite (LeO.bind (LeO.ite (LeO.refl _) (spec_l02Has.mono _ _ k)) fun t => LeO.ite (spec_l12Walk.mono_wk n es q f tree k _ _ _ _) (spec_l12Walk.mono_wk n es q f tree k _ _ _ _)) (LeO.refl _))
theorem spec_l12Walk.mono : ∀ a0 a1 a2 a3 a4 k, LeO (spec_l12Walk.f k a0 a1 a2 a3 a4) (spec_l12Walk.f (k + 1) a0 a1 a2 a3 a4) := by
 intro a0 a1 a2 a3 a4 k; unfold spec_l12Walk.f; exact LeO.ite (spec_l12Walk.mono_wk _ _ _ _ _ k _ _ _ _) (LeO.refl _)
/-- What the walk keeps in memory. -/
structure spec_l12Walk.Inv (n : Nat) (es : List S74) (A0 : Option Addr) (c0 gb : Nat) (PB PT PL PO : Nat → Prop) (vb vk vl vo : Value) (w0 w4 wr : World) (bl tk : List Bool) (lost out : List Int) : Prop where
 hb : Below w0.heap.size w0 wr
 hz : w4.heap.size ≤ wr.heap.size
 hg : wr.heap[gb]? = some (.cells #[.int .i64 (n : Int), .slice A0 es.length c0] 31 (0, 0))
 hbl : Kd.R Kd.bool 4 wr w0.heap.size PB vb bl
 ht : Kd.R Kd.bool 4 wr w0.heap.size PT vk tk
 hl : Kd.R (Kd.int .i64) 3 wr w0.heap.size PL vl lost
 ho : Kd.R (Kd.int .i64) 3 wr w0.heap.size PO vo out
theorem spec_l12Walk.Inv.step {n : Nat} {es : List S74} {A0 : Option Addr} {c0 gb : Nat} {PB PT PL PO : Nat → Prop} {vb vk vl vo : Value} {w0 w4 wr w' : World} {bl tk : List Bool} {lost out : List Int}
  (h : spec_l12Walk.Inv n es A0 c0 gb PB PT PL PO vb vk vl vo w0 w4 wr bl tk lost out) (hb : Below wr.heap.size wr w') : spec_l12Walk.Inv n es A0 c0 gb PB PT PL PO vb vk vl vo w0 w4 w' bl tk lost out :=
 ⟨below_step h.hb hb, Nat.le_trans h.hz hb.size, blk_below h.hg hb, Kd.R_below h.hbl hb, Kd.R_below h.ht hb, Kd.R_below h.hl hb, Kd.R_below h.ho hb⟩
theorem spec_l12Walk.next (k n : Nat) (A0 : Option Addr) (c0 : Nat) (es : List S74) (Ab : Option Addr) (mb cb : Nat) (bl : List Bool) (Ak : Option Addr) (mk ck : Nat) (tk : List Bool) (p0 p1 : Int) (w : World) (base : Nat) (PB PT : Nat → Prop) (hE : Kd.C k74 w A0 es.length es) (hc : es.length ≤ c0) (hb : Kd.R Kd.bool 4 w base PB (.slice Ab mb cb) bl) (ht : Kd.R Kd.bool 4 w base PT (.slice Ak mk ck) tk) (h : spec_l12Next.f k (n : Int) es bl tk = some (p0, p1)) :
  Calls Try.prog 63 #[.agg #[.int .i64 (n : Int), .slice A0 es.length c0], .slice Ab mb cb, .slice Ak mk ck] w fun e w' => e = .returned (.tuple #[.int .i64 p0, .int .i64 p1]) ∧ Below w.heap.size w w' := by
 obtain ⟨rfl, hb1, hb2⟩ := Kd.R_reads' hb; obtain ⟨rfl, ht1, ht2⟩ := Kd.R_reads' ht; exact spec_l12Next.calls k (n : Int) A0 c0 es Ab cb bl Ak ck tk p0 p1 w hE hc hb2 hb1 ht2 ht1 h
set_option maxHeartbeats 16000000 in
set_option maxRecDepth 1000000 in
theorem spec_l12Walk.calls (k : Nat) (a0_0 : Int) (A0_1 : Option Addr) (c0_1 : Nat) (l0_1 : List S74) (a1 : Int) (A2 : Option Addr) (c2 : Nat) (l2 : List Int) (A3 : Option Addr) (c3 : Nat) (l3 : List Int) (r1 : List Int) (r2 : List Int) (w : World) (hr0_1 : Kd.C k74 w A0_1 l0_1.length l0_1) (hc0_1 : l0_1.length ≤ c0_1) (hr2 : Kd.C (Kd.int .i64) w A2 l2.length l2) (hc2 : l2.length ≤ c2) (hr3 : Kd.C (Kd.int .i64) w A3 l3.length l3) (hc3 : l3.length ≤ c3) (h : spec_l12Walk.f k a0_0 l0_1 a1 l2 l3 = some (r1, r2)) :
  Calls Try.prog 32 #[.agg #[.int .i64 a0_0, .slice A0_1 l0_1.length c0_1], .int .i64 a1, .slice A2 l2.length c2, .slice A3 l3.length c3] w fun e w' => ∃ v0_ v1_ : Value, e = .returned (.tuple #[v0_, v1_]) ∧ Kd.R (Kd.int .i64) 3 w' w.heap.size (fun k_ => some k_ ≠ (v1_ : Value).ownBlock) v0_ r1 ∧ Kd.R (Kd.int .i64) 3 w' w.heap.size (fun k_ => some k_ ≠ (v0_ : Value).ownBlock) v1_ r2 ∧ Below w.heap.size w w' := by
 have hu31 := Try.underlying31; have HE := Aside0.mk hr0_1; have HC := Aside0.mk hc0_1; have HFR := Aside0.mk hr2; have HFC := Aside0.mk hc2; have HT := Aside0.mk hr3; have HCT := Aside0.mk hc3; clear hr0_1 hc0_1 hr2 hc2 hr3 hc3; unfold spec_l12Walk.f at h; (split at h); (case isFalse => cases h); rename_i hc; obtain ⟨⟨hn0, hn6⟩, hel, hq0, hqn⟩ := hc; obtain ⟨n, rfl⟩ := Int.eq_ofNat_of_zero_le hn0; obtain ⟨q, rfl⟩ := Int.eq_ofNat_of_zero_le hq0; rw [Int.toNat_natCast, Int.toNat_natCast] at h; have H0 := Aside0.mk h; have HQ := Aside0.mk (show n ≤ 6 ∧ l0_1.length ≤ 12 ∧ q < n from ⟨by omega, hel, by omega⟩); (have hnb : (n : Int) ≤ 6 := by omega); (have hl0 : (0 : Int) ≤ (l0_1.length : Int) := by omega); (have hlb : (l0_1.length : Int) ≤ 12 := by omega); clear hel h; go_enter Try.func32, Try.ntmps32; (go_wp2_with (first | ((with_reducible refine gate_dst (N := 4) rfl ?_); refine box_event ?hg (N := 4) ?hd (cs := #[.int .i64 (n : Int), .slice A0_1 l0_1.length c0_1]) (t := 31) ?hr ?_; (case hd => rfl); (case hg => rfl); (case hr => exact zz9); intro gb hg w1 hbox hb; have HG := Aside0.mk (show w.heap.size ≤ gb ∧ gb < w1.heap.size from ⟨by omega, blk_lt hbox⟩); have BG1 := Aside0.mk hbox; have HB1 := Aside0.mk hb; have hcz0 : w1.cell? ⟨gb, 0, none⟩ = some (.int .i64 (n : Int)) := (blk_cell hbox 0).trans rfl; clear hg hbox hb) | ((with_reducible refine gate_dst (N := 18) rfl ?_); refine Kd.R_make (w0 := w1) Kd.bool w1.heap.size 4 rfl (N := 18) rfl 81 _ _ rfl (n : Int) rfl rfl Try.underlying81 (.bool false) 1 info4 rfl (by decide) (by omega) false (ok := fun _ => True) (okp := fun _ => True) rfl (fun _ hk => hk) trivial hn0 (by omega) (Below.refl _ _) (Nat.le_refl _) ?_; intro v18 w2 ho hb hg_ hnew_; rw [Int.toNat_natCast] at ho; have RB2 := Aside0.mk (Kd.R_lower (Kd.R_mono (Kd.R_bound ho) (ok' := fun k_ => w1.heap.size ≤ k_ ∧ k_ < w2.heap.size) fun k_ hk => ⟨hk.2.1, hk.2.2.1⟩) HB1.out.size); have BG2 := Aside0.mk (blk_below BG1.out hb); have HB2 := Aside0.mk (below_step HB1.out hb); have hcz1 : w2.cell? ⟨gb, 1, none⟩ = some (.slice A0_1 l0_1.length c0_1) := (blk_cell BG2.out 1).trans rfl; have HZ12 := Aside0.mk hb.size; clear ho hb hg_ hnew_ hcz0) | ((with_reducible refine gate_dst (N := 22) rfl ?_); refine Kd.R_make (w0 := w2) Kd.bool w2.heap.size 4 rfl (N := 22) rfl 81 _ _ rfl (l0_1.length : Int) rfl rfl Try.underlying81 (.bool false) 1 info4 rfl (by decide) (by omega) false (ok := fun _ => True) (okp := fun _ => True) rfl (fun _ hk => hk) trivial hl0 (by omega) (Below.refl _ _) (Nat.le_refl _) ?_; intro v22 w3 ho hb hg_ hnew_; rw [Int.toNat_natCast] at ho; obtain ⟨Ak, ck, ek⟩ := Kd.R_slice ho; subst ek; (try simp only [List.length_replicate]); rw [List.length_replicate] at ho; have RT3 := Aside0.mk (Kd.R_lower (Kd.R_mono (Kd.R_bound ho) (ok' := fun k_ => w2.heap.size ≤ k_ ∧ k_ < w3.heap.size) fun k_ hk => ⟨hk.2.1, hk.2.2.1⟩) HB2.out.size); have RB3 := Aside0.mk (Kd.R_below RB2.out hb); have BG3 := Aside0.mk (blk_below BG2.out hb); have HB3 := Aside0.mk (below_step HB2.out hb); have hcz2 : w3.cell? ⟨gb, 0, none⟩ = some (.int .i64 (n : Int)) := (blk_cell BG3.out 0).trans rfl; have HZ23 := Aside0.mk hb.size; clear ho hb hg_ hnew_ hcz1) | ((with_reducible refine gate_dst (N := 25) rfl ?_); refine Kd.R_make (w0 := w3) (Kd.int .i64) w3.heap.size 3 rfl (N := 25) rfl 25 _ _ rfl (n : Int) rfl rfl Try.underlying25 (.int .i64 0) 8 info3 rfl (by decide) (by omega) 0 (ok := fun _ => True) (okp := fun _ => True) rfl (fun _ hk => hk) trivial hn0 (by omega) (Below.refl _ _) (Nat.le_refl _) ?_; intro v25 w4 ho hb hg_ hnew_; rw [Int.toNat_natCast] at ho; obtain ⟨Al, cl, el⟩ := Kd.R_slice ho; subst el; (try simp only [List.length_replicate]); rw [List.length_replicate] at ho; have RL4 := Aside0.mk (Kd.R_lower (Kd.R_mono (Kd.R_bound ho) (ok' := fun k_ => w3.heap.size ≤ k_ ∧ k_ < w4.heap.size) fun k_ hk => ⟨hk.2.1, hk.2.2.1⟩) HB3.out.size); have RT4 := Aside0.mk (Kd.R_below RT3.out hb); have RB4 := Aside0.mk (Kd.R_below RB3.out hb); have BG4 := Aside0.mk (blk_below BG3.out hb); have HB4 := Aside0.mk (below_step HB3.out hb); have HZ34 := Aside0.mk hb.size; obtain ⟨gB, cB, eB, hgB, _⟩ := Kd.R_form RB4.out (by have := HQ.out; rw [List.length_replicate]; omega); subst eB; obtain ⟨hx28, hf28⟩ := Kd.R_celln false RB4.out (q : Int) hq0 (by rw [List.length_replicate]; exact hqn); rw [Int.toNat_natCast] at hx28 hf28; rw [List.length_replicate] at RB4; have HGB := Aside0.mk hgB; (try simp only [List.length_replicate]); clear ho hb hg_ hnew_ hcz2 hgB) | ((with_reducible refine gate_store (t := 4) (p := 28) rfl ?_); refine store_event (t := 4) (p := 28) (v := .const (.bool true)) (w1 := (w4.setCell ⟨gB, q, none⟩ (.bool true))) ?hg ?ho ?hn ?hr ?_; (case ho => rfl); (case hg => rfl); (case hn => rfl); (case hr => exact zz9); intro w5 hw; have hp := Kd.R_putg RB4.out (q : Int) true; rw [Int.toNat_natCast, ← hw] at hp; have hgt := RB4.out.1 gB rfl; have RB5 := Aside0.mk hp.1; have RT5 := Aside0.mk (Kd.R_step RT4.out (fun k_ hk hlt => hp.2.block k_ hlt (by have := hk.1; intro e_; injection e_ with e_; omega))); have RL5 := Aside0.mk (Kd.R_step RL4.out (fun k_ hk hlt => hp.2.block k_ hlt (by have := hk.1; have := HZ23.out; intro e_; injection e_ with e_; omega))); have BG5 := Aside0.mk (blk_grown BG4.out hp.2 (by have := HG.out; intro e_; injection e_ with e_; omega)); have HB5 := Aside0.mk (show Below w.heap.size w w5 from (by rw [hw]; exact below_set HB4.out HGB.out)); have HZ45 := Aside0.mk hp.2.size; clear hw hp hgt hx28 hf28) | ((with_reducible refine gate_dst (N := 29) rfl ?_); refine Kd.R_lit (w0 := w5) (Kd.int .i64) w5.heap.size 3 ?hg (N := 29) ?hd (xs := ([] : List Int)) (inner := []) (ok := fun _ => True) (okp := fun _ => True) ?hr ?hp (fun _ hk => hk) trivial (Below.refl _ _) (Nat.le_refl _) (by simp) ?_; (case hd => rfl); (case hg => rfl); (case hr => exact zz9); (case hp => exact (Reps.none _ _)); intro v29 w6 ho hb hg_ hnew_; have HI0 := Aside0.mk (show spec_l12Walk.Inv n l0_1 A0_1 c0_1 gb (fun k_ => w1.heap.size ≤ k_ ∧ k_ < w2.heap.size) (fun k_ => w2.heap.size ≤ k_ ∧ k_ < w3.heap.size) (fun k_ => w3.heap.size ≤ k_ ∧ k_ < w4.heap.size) (fun k_ => w5.heap.size ≤ k_) (.slice (some ⟨gB, 0, none⟩) n cB) (.slice Ak l0_1.length ck) (.slice Al n cl) v29 w w5 w6 ((List.replicate n false).set q true) (List.replicate l0_1.length false) (List.replicate n 0) [] from ⟨below_step HB5.out hb, hb.size, blk_below BG5.out hb, Kd.R_below RB5.out hb, Kd.R_below RT5.out hb, Kd.R_below RL5.out hb, Kd.R_lower (Kd.R_mono (Kd.R_bound ho) fun k_ hk => hk.2.1) HB5.out.size⟩); clear ho hb hg_ hnew_))); have HQ2 := Aside0.mk (show w5.heap.size ≤ w6.heap.size from HI0.out.hz); clear HB5 RB5 RT5 RL5 BG5 HB4 RB4 RT4 RL4 BG4 HB3 RB3 RT3 BG3 HB2 RB2 BG2 HB1 BG1; (try go_wp2); (go_loopg [13] k (fun kq v13 wr => ∃ (bl tk : List Bool) (lost out : List Int), Aside0 (spec_l12Walk.wk (n : Int) l0_1 q l2 l3 kq bl tk lost out = some (r1, r2)) ∧ Aside0 (kq ≤ k) ∧ Aside0 (bl.length = n ∧ tk.length = l0_1.length ∧ lost.length = n) ∧ Aside0 (spec_l12Walk.Inv n l0_1 A0_1 c0_1 gb (fun k_ => w1.heap.size ≤ k_ ∧ k_ < w2.heap.size) (fun k_ => w2.heap.size ≤ k_ ∧ k_ < w3.heap.size) (fun k_ => w3.heap.size ≤ k_ ∧ k_ < w4.heap.size) (fun k_ => w5.heap.size ≤ k_) (.slice (some ⟨gB, 0, none⟩) n cB) (.slice Ak l0_1.length ck) (.slice Al n cl) v13 w w5 wr bl tk lost out))); case atStart => exact ⟨_, _, _, _, H0, ⟨Nat.le_refl _⟩, ⟨by simp, by simp, by simp⟩, HI0⟩
 case round =>
  clear H0 HI0; obtain ⟨bl, tk, lost, out, HA, HK1, HN, HI⟩ := hrel
  cases gk with
  | zero => exact absurd HA.out (by simp [spec_l12Walk.wk])
  | succ k1 =>
   have H := HA.out; clear HA; simp only [spec_l12Walk.wk] at H; replace H := Option.bind_eq_some_iff.mp H; obtain ⟨⟨p0, p1⟩, hp, H⟩ := H; have HP := Aside0.mk hp; clear hp; simp only at H; have hcz0 : wr.cell? ⟨gb, 0, none⟩ = some (.int .i64 (n : Int)) := (blk_cell HI.out.hg 0).trans rfl; have hcz1 : wr.cell? ⟨gb, 1, none⟩ = some (.slice A0_1 l0_1.length c0_1) := (blk_cell HI.out.hg 1).trans rfl; by_cases hneg : p0 < 0
   ·rw [if_pos hneg] at H; replace H := Option.bind_eq_some_iff.mp H; obtain ⟨s, hs, H⟩ := H; obtain ⟨rfl, rfl⟩ := Prod.mk.inj (Option.some.inj H); have HS := Aside0.mk hs; clear hs H; have d0 : decide (p0 < 0) = true := decide_eq_true hneg; clear hneg; (go_wp2_with fail); refine (spec_l12Walk.next k1 n A0_1 c0_1 l0_1 _ _ _ bl _ _ _ tk p0 p1 _ w.heap.size _ _ (Kd.C_below HE.out HI.out.hb) HC.out HI.out.hbl HI.out.ht HP.out).mono ?_; rintro e wa ⟨rfl, hb⟩; have HIa := Aside0.mk (HI.out.step hb); clear hb hcz0 hcz1 HI; obtain ⟨gl, cll, el, hgl, _⟩ := Kd.R_form HIa.out.hl (by have := HN.out.2.2; have := HQ.out; omega); injection el with eA eN eC; clear eN; subst eA; subst eC; obtain ⟨Ao, co, eo⟩ := Kd.R_slice HIa.out.ho; subst eo; have HGL := Aside0.mk hgl; clear hgl; (have hqn : (q : Int) < (n : Int) := by have := HQ.out; omega); (have hq0 : (0 : Int) ≤ (q : Int) := by omega); obtain ⟨hxl, hfl⟩ := Kd.R_celln 0 HIa.out.hl (q : Int) hq0 hqn; rw [Int.toNat_natCast] at hxl hfl; (go_wp2_with fail); generalize hw : wa.setCell ⟨gl, q, none⟩ (.int .i64 (-1)) = wb; have hp := Kd.R_putg HIa.out.hl (q : Int) (-1); rw [Int.toNat_natCast, hw] at hp; have HLb := Aside0.mk hp.1; have hlo := HIa.out.hl.1 gl rfl; have HOb := Aside0.mk (Kd.R_step HIa.out.ho (fun k_ hk hlt => hp.2.block k_ hlt (by have := HZ45.out; have := hlo.2; have hk2 : w5.heap.size ≤ k_ := hk; intro e_; injection e_ with e_; omega))); have HBb := Aside0.mk (show Below w.heap.size w wb from (by rw [← hw]; exact below_set HIa.out.hb HGL.out)); have HLO := Aside0.mk (show gl < w4.heap.size ∧ w4.heap.size ≤ wb.heap.size from ⟨hlo.2, Nat.le_trans HZ45.out (Nat.le_trans HIa.out.hz hp.2.size)⟩); clear hw hp hxl hfl hlo; refine (spec_l12Sorted.calls k1 _ _ out s _ (Kd.R_reads' HOb.out).2.2 (Kd.R_reads' HOb.out).2.1 HS.out).mono ?_; rintro e wc ⟨vs, rfl, hR, hb⟩; have HR := Aside0.mk (Kd.R_lower (Kd.R_mono (Kd.R_bound hR) (ok' := fun k_ => wb.heap.size ≤ k_) fun k_ hk => hk.2.1) HBb.out.size); have HLc := Aside0.mk (Kd.R_below HLb.out hb); have HBc := Aside0.mk (below_step HBb.out hb); clear hR hb; go_wp2; (go_ret2); exact ⟨_, _, rfl, Kd.R_mono HR.out (fun k_ hk => (by have hk2 : wb.heap.size ≤ k_ := hk; have := HLO.out; intro e_; have e2 : some k_ = some gl := e_; injection e2 with e2; omega)), Kd.R_mono HLc.out (fun k_ hk => (by have := HLO.out; have hk2 : w3.heap.size ≤ k_ ∧ k_ < w4.heap.size := hk; intro e_; have hk3 : wb.heap.size ≤ k_ := HR.out.1 k_ e_.symm; omega)), HBc.out⟩
   rw [if_neg hneg] at H; (split at H); (case isFalse => cases H); rename_i hg; obtain ⟨⟨h0, h1⟩, ⟨h2, h3⟩, h4, h5, h6⟩ := hg; have d0 : decide (p0 < 0) = false := decide_eq_false hneg; have HO6 := Aside0.mk h6; have HX := Aside0.mk H; rw [HN.out.1] at h3; rw [HN.out.2.1] at h1; rw [HN.out.2.2] at h4; clear hneg H h6 h4; (go_wp2_with fail); refine (spec_l12Walk.next k1 n A0_1 c0_1 l0_1 _ _ _ bl _ _ _ tk p0 p1 _ w.heap.size _ _ (Kd.C_below HE.out HI.out.hb) HC.out HI.out.hbl HI.out.ht HP.out).mono ?_; rintro e wa ⟨rfl, hb⟩; have HIa := Aside0.mk (HI.out.step hb); clear hb hcz0 hcz1 HI; obtain ⟨gl, cll, el, hgl, _⟩ := Kd.R_form HIa.out.hl (by have := HN.out.2.2; have := HQ.out; omega); injection el with eA eN eC; clear eN; subst eA; subst eC; obtain ⟨gk, ckk, ek, hgk, _⟩ := Kd.R_form HIa.out.ht (by have := HN.out.2.1; omega); injection ek with eA eN eC; clear eN; subst eA; subst eC; have HGL := Aside0.mk (show w.heap.size ≤ gl ∧ w.heap.size ≤ gk ∧ (w3.heap.size ≤ gl ∧ gl < w4.heap.size) ∧ (w2.heap.size ≤ gk ∧ gk < w3.heap.size) ∧ (w1.heap.size ≤ gB ∧ gB < w2.heap.size) from ⟨hgl, hgk, HIa.out.hl.1 gl rfl, HIa.out.ht.1 gk rfl, HIa.out.hbl.1 gB rfl⟩); clear hgl hgk; obtain ⟨Ao, co, eo⟩ := Kd.R_slice HIa.out.ho; subst eo; obtain ⟨hxk, hfk⟩ := Kd.R_celln false HIa.out.ht p0 h0 h1; have q0 : decide (0 ≤ p1) = true := decide_eq_true h2; have q1 : decide (p1 < (n : Int)) = true := decide_eq_true h3; have q2 : decide (p1 < (l2.length : Int)) = true := decide_eq_true h5; (go_wp2_with (first | ((with_reducible refine gate_store (t := 4) (p := 41) rfl ?_); refine store_event (t := 4) (p := 41) (v := .const (.bool true)) (w1 := (wa.setCell ⟨gk, p0.toNat, none⟩ (.bool true))) ?hg ?ho ?hn ?hr ?_; (case ho => rfl); (case hg => rfl); (case hn => rfl); (case hr => exact zz9); intro wb hw; have hp := Kd.R_putg HIa.out.ht p0 true; rw [← hw] at hp; have HIb := Aside0.mk (show spec_l12Walk.Inv n l0_1 A0_1 c0_1 gb (fun k_ => w1.heap.size ≤ k_ ∧ k_ < w2.heap.size) (fun k_ => w2.heap.size ≤ k_ ∧ k_ < w3.heap.size) (fun k_ => w3.heap.size ≤ k_ ∧ k_ < w4.heap.size) (fun k_ => w5.heap.size ≤ k_) (.slice (some ⟨gB, 0, none⟩) n cB) (.slice (some ⟨gk, 0, none⟩) l0_1.length ck) (.slice (some ⟨gl, 0, none⟩) n cl) (.slice Ao out.length co) w w5 wb bl (tk.set p0.toNat true) lost out from ⟨(by rw [hw]; exact below_set HIa.out.hb HGL.out.2.1), Nat.le_trans HIa.out.hz hp.2.size, blk_grown HIa.out.hg hp.2 (by have := HG.out; have := HGL.out; have := HZ12.out; intro e_; have e2 : gb = gk := Option.some.inj e_; omega), Kd.R_step HIa.out.hbl (fun k_ hk hlt => hp.2.block k_ hlt (by have := HGL.out; have hk2 : w1.heap.size ≤ k_ ∧ k_ < w2.heap.size := hk; intro e_; have e2 : k_ = gk := Option.some.inj e_; omega)), hp.1, Kd.R_step HIa.out.hl (fun k_ hk hlt => hp.2.block k_ hlt (by have := HGL.out; have hk2 : w3.heap.size ≤ k_ ∧ k_ < w4.heap.size := hk; intro e_; have e2 : k_ = gk := Option.some.inj e_; omega)), Kd.R_step HIa.out.ho (fun k_ hk hlt => hp.2.block k_ hlt (by have := HGL.out; have := HZ34.out; have := HZ45.out; have hk2 : w5.heap.size ≤ k_ := hk; intro e_; have e2 : k_ = gk := Option.some.inj e_; omega))⟩); clear hw hp hxk hfk))); obtain ⟨ad, ea, hx2⟩ := Kd.at_int (Kd.C_below HFR.out HIb.out.hb) p1 h2 h5; subst ea; have hxl : wb.cell? ⟨gl, p1.toNat, none⟩ = some (.int .i64 (rd lost p1)) := (Kd.R_celln 0 HIb.out.hl p1 h2 h3).1; have hfl := (Kd.R_celln 0 HIb.out.hl p1 h2 h3).2; obtain ⟨hxB, hfB⟩ := Kd.R_celln false HIb.out.hbl p1 h2 h3; clear HIa; by_cases ht0 : l3.length = 0; rotate_left
   ·have t0 : ((l3.length : Int) == 0) = false := beq_eq_false_iff_ne.mpr (by omega); have HT0 := Aside0.mk ht0; clear ht0; have hX := HX.out; rw [show spec_l12Walk.cond k1 l2 l3 lost p0 p1 = spec_l02Has.f k1 l3 p0 from if_neg (fun h_ => HT0.out h_.1)] at hX; replace hX := Option.bind_eq_some_iff.mp hX; obtain ⟨t, ht, hX⟩ := hX; have HX2 := Aside0.mk hX; clear hX; have HTT := Aside0.mk ht; clear ht
    cases t with
    | true =>
     (try go_wp2); (go_quiet (first | (go_at_call 64; (with_reducible refine (spec_l02Has.calls k1 _ _ l3 p0 true _ ?side1 ?side2 HTT.out).mono ?_); (case side1 => exact zz34); (case side2 => exact HCT.out); rintro e w' ⟨rfl, ⟨nd, rfl⟩⟩; (try first | exact ⟨rfl, _, World.drewN_drewN _ _ _⟩ | exact ⟨rfl, _, Eq.trans (World.drewN_drewN _ _ _) (congrArg (World.drewN _) (Nat.add_assoc _ _ _))⟩)))); (go_wp2_with (first | ((with_reducible refine gate_store (t := 4) (p := 63) rfl ?_); refine store_event (t := 4) (p := 63) (v := .const (.bool true)) (w1 := ?wx4_) ?hg ?ho ?hn ?hr ?_; (case ho => rfl); (case hg => rfl); (case hn => rfl); (case hr => exact zz9); intro wc hw0; obtain ⟨mq, hw⟩ : ∃ m, wc = ((wb.drewN m).setCell ⟨gB, p1.toNat, none⟩ (.bool true)) := ⟨_, hw0⟩; clear hw0; have hI := HIb.out.step (pw_below_drewN (Below.refl _ _) mq); have hp := Kd.R_putg hI.hbl p1 true; rw [← hw] at hp; have HIc := Aside0.mk (show spec_l12Walk.Inv n l0_1 A0_1 c0_1 gb (fun k_ => w1.heap.size ≤ k_ ∧ k_ < w2.heap.size) (fun k_ => w2.heap.size ≤ k_ ∧ k_ < w3.heap.size) (fun k_ => w3.heap.size ≤ k_ ∧ k_ < w4.heap.size) (fun k_ => w5.heap.size ≤ k_) (.slice (some ⟨gB, 0, none⟩) n cB) (.slice (some ⟨gk, 0, none⟩) l0_1.length ck) (.slice (some ⟨gl, 0, none⟩) n cl) (.slice Ao out.length co) w w5 wc (bl.set p1.toNat true) (tk.set p0.toNat true) lost out from ⟨(by rw [hw]; exact below_set hI.hb HGB.out), Nat.le_trans hI.hz hp.2.size, blk_grown hI.hg hp.2 (by have := HG.out; have := HGL.out; intro e_; have e2 : gb = gB := Option.some.inj e_; omega), hp.1, Kd.R_step hI.ht (fun k_ hk hlt => hp.2.block k_ hlt (by have := HGL.out; have hk2 : w2.heap.size ≤ k_ ∧ k_ < w3.heap.size := hk; intro e_; have e2 : k_ = gB := Option.some.inj e_; omega)), Kd.R_step hI.hl (fun k_ hk hlt => hp.2.block k_ hlt (by have := HGL.out; have := HZ23.out; have hk2 : w3.heap.size ≤ k_ ∧ k_ < w4.heap.size := hk; intro e_; have e2 : k_ = gB := Option.some.inj e_; omega)), Kd.R_step hI.ho (fun k_ hk hlt => hp.2.block k_ hlt (by have := HGL.out; have := HZ23.out; have := HZ34.out; have := HZ45.out; have hk2 : w5.heap.size ≤ k_ := hk; intro e_; have e2 : k_ = gB := Option.some.inj e_; omega))⟩); clear hw hp hI) | ((with_reducible refine gate_builtin (b := .append) (xs := #[.tmp 64, .tmp 66]) rfl ?_); at_builtin; refine Kd.R_append (Kd.int .i64) (w0 := w) w.heap.size rfl (.tmp 64) (.tmp 66) 25 3 (.int .i64 0) 8 rfl Try.underlying25 info3 rfl (by decide) (by omega) (.slice Ao out.length co) out p0 [.int .i64 p0] (fun k_ => w5.heap.size ≤ k_) (fun _ => False) rfl rfl rfl (fun _ hk => hk.elim) (fun k_ hk => Nat.le_trans HIc.out.hz hk) HIc.out.ho HIc.out.hb (below_size HIc.out.hb) (by have := HO6.out; omega) ?_; intro vD wD ho hb hgr hat; have HId := Aside0.mk (show spec_l12Walk.Inv n l0_1 A0_1 c0_1 gb (fun k_ => w1.heap.size ≤ k_ ∧ k_ < w2.heap.size) (fun k_ => w2.heap.size ≤ k_ ∧ k_ < w3.heap.size) (fun k_ => w3.heap.size ≤ k_ ∧ k_ < w4.heap.size) (fun k_ => w5.heap.size ≤ k_) (.slice (some ⟨gB, 0, none⟩) n cB) (.slice (some ⟨gk, 0, none⟩) l0_1.length ck) (.slice (some ⟨gl, 0, none⟩) n cl) vD w w5 wD (bl.set p1.toNat true) (tk.set p0.toNat true) lost (out ++ [p0]) from ⟨hb, Nat.le_trans HIc.out.hz hgr.size, blk_grown HIc.out.hg hgr (by intro e_; have e2 := HIc.out.ho.1 gb e_.symm; have := HG.out; have := HZ12.out; have := HZ23.out; have := HZ34.out; have := HZ45.out; omega), Kd.R_step HIc.out.hbl (fun k_ hk hlt => hgr.block k_ hlt (by have hk2 : w1.heap.size ≤ k_ ∧ k_ < w2.heap.size := hk; intro e_; have e2 : w5.heap.size ≤ k_ := HIc.out.ho.1 k_ e_.symm; have := HZ23.out; have := HZ34.out; have := HZ45.out; omega)), Kd.R_step HIc.out.ht (fun k_ hk hlt => hgr.block k_ hlt (by have hk2 : w2.heap.size ≤ k_ ∧ k_ < w3.heap.size := hk; intro e_; have e2 : w5.heap.size ≤ k_ := HIc.out.ho.1 k_ e_.symm; have := HZ34.out; have := HZ45.out; omega)), Kd.R_step HIc.out.hl (fun k_ hk hlt => hgr.block k_ hlt (by have hk2 : w3.heap.size ≤ k_ ∧ k_ < w4.heap.size := hk; intro e_; have e2 : w5.heap.size ≤ k_ := HIc.out.ho.1 k_ e_.symm; have := HZ45.out; omega)), ho⟩); clear ho hb hgr hat))); go_roundg k1; case measure => have := HK1.out; omega
     case rel =>
      have hX := HX2.out; (first | rw [if_pos rfl] at hX | rw [if_pos trivial] at hX); exact ⟨bl.set p1.toNat true, tk.set p0.toNat true, lost, out ++ [p0], ⟨hX⟩, ⟨zz39⟩, ⟨by rw [List.length_set]; exact HN.out.1, by rw [List.length_set]; exact HN.out.2.1, HN.out.2.2⟩, HId⟩
    | false =>
     (try go_wp2); (go_quiet (first | (go_at_call 64; (with_reducible refine (spec_l02Has.calls k1 _ _ l3 p0 false _ ?side1 ?side2 HTT.out).mono ?_); (case side1 => exact zz34); (case side2 => exact HCT.out); rintro e w' ⟨rfl, ⟨nd, rfl⟩⟩; (try first | exact ⟨rfl, _, World.drewN_drewN _ _ _⟩ | exact ⟨rfl, _, Eq.trans (World.drewN_drewN _ _ _) (congrArg (World.drewN _) (Nat.add_assoc _ _ _))⟩)))); (go_wp2_with (first | ((with_reducible refine gate_store (t := 3) (p := 73) rfl ?_); refine store_event (t := 3) (p := 73) (v := ?vo5_) (w1 := ?wx5_) ?hg ?ho ?hn ?hr ?_; (case ho => rfl); (case hg => rfl); (case hn => rfl); (case hr => exact zz9); intro wc hw0; obtain ⟨mq, hw⟩ : ∃ m, wc = ((wb.drewN m).setCell ⟨gl, p1.toNat, none⟩ (.int .i64 (wrap64 (rd lost p1 + 1)))) := ⟨_, hw0⟩; clear hw0; have hI := HIb.out.step (pw_below_drewN (Below.refl _ _) mq); have hp := Kd.R_putg hI.hl p1 (wrap64 (rd lost p1 + 1)); rw [← hw] at hp; have HIc := Aside0.mk (show spec_l12Walk.Inv n l0_1 A0_1 c0_1 gb (fun k_ => w1.heap.size ≤ k_ ∧ k_ < w2.heap.size) (fun k_ => w2.heap.size ≤ k_ ∧ k_ < w3.heap.size) (fun k_ => w3.heap.size ≤ k_ ∧ k_ < w4.heap.size) (fun k_ => w5.heap.size ≤ k_) (.slice (some ⟨gB, 0, none⟩) n cB) (.slice (some ⟨gk, 0, none⟩) l0_1.length ck) (.slice (some ⟨gl, 0, none⟩) n cl) (.slice Ao out.length co) w w5 wc bl (tk.set p0.toNat true) (lost.set p1.toNat (wrap64 (rd lost p1 + 1))) out from ⟨(by rw [hw]; exact below_set hI.hb HGL.out.1), Nat.le_trans hI.hz hp.2.size, blk_grown hI.hg hp.2 (by have := HG.out; have := HGL.out; have := HZ12.out; have := HZ23.out; intro e_; have e2 : gb = gl := Option.some.inj e_; omega), Kd.R_step hI.hbl (fun k_ hk hlt => hp.2.block k_ hlt (by have := HGL.out; have := HZ23.out; have hk2 : w1.heap.size ≤ k_ ∧ k_ < w2.heap.size := hk; intro e_; have e2 : k_ = gl := Option.some.inj e_; omega)), Kd.R_step hI.ht (fun k_ hk hlt => hp.2.block k_ hlt (by have := HGL.out; have hk2 : w2.heap.size ≤ k_ ∧ k_ < w3.heap.size := hk; intro e_; have e2 : k_ = gl := Option.some.inj e_; omega)), hp.1, Kd.R_step hI.ho (fun k_ hk hlt => hp.2.block k_ hlt (by have := HGL.out; have := HZ45.out; have hk2 : w5.heap.size ≤ k_ := hk; intro e_; have e2 : k_ = gl := Option.some.inj e_; omega))⟩); clear hw hp hI))); go_roundg k1; case measure => have := HK1.out; omega
     case rel =>
      have hX := HX2.out; rw [if_neg (by simp)] at hX; exact ⟨bl, tk.set p0.toNat true, lost.set p1.toNat (wrap64 (rd lost p1 + 1)), out, ⟨hX⟩, ⟨zz39⟩, ⟨HN.out.1, by rw [List.length_set]; exact HN.out.2.1, by rw [List.length_set]; exact HN.out.2.2⟩, HIc⟩
   have t0 : ((l3.length : Int) == 0) = true := beq_iff_eq.mpr (by omega); have HT0 := Aside0.mk ht0; clear ht0; by_cases heq : rd lost p1 = rd l2 p1
   ·have e0 : (rd lost p1 == rd l2 p1) = true := beq_iff_eq.mpr heq; have HEQ := Aside0.mk heq; clear heq; have hX := HX.out; rw [show spec_l12Walk.cond k1 l2 l3 lost p0 p1 = some true from if_pos ⟨HT0.out, HEQ.out⟩] at hX; replace hX := Option.bind_eq_some_iff.mp hX; obtain ⟨t, ht, hX⟩ := hX; have HX2 := Aside0.mk hX; clear hX; obtain rfl := Option.some.inj ht; clear ht; (try go_wp2); (go_quiet (fail)); (go_wp2_with (first | ((with_reducible refine gate_store (t := 4) (p := 63) rfl ?_); refine store_event (t := 4) (p := 63) (v := .const (.bool true)) (w1 := ?wx1_) ?hg ?ho ?hn ?hr ?_; (case ho => rfl); (case hg => rfl); (case hn => rfl); (case hr => exact zz9); intro wc hw0; obtain ⟨mq, hw⟩ : ∃ m, wc = ((wb.drewN m).setCell ⟨gB, p1.toNat, none⟩ (.bool true)) := ⟨_, hw0⟩; clear hw0; have hI := HIb.out.step (pw_below_drewN (Below.refl _ _) mq); have hp := Kd.R_putg hI.hbl p1 true; rw [← hw] at hp; have HIc := Aside0.mk (show spec_l12Walk.Inv n l0_1 A0_1 c0_1 gb (fun k_ => w1.heap.size ≤ k_ ∧ k_ < w2.heap.size) (fun k_ => w2.heap.size ≤ k_ ∧ k_ < w3.heap.size) (fun k_ => w3.heap.size ≤ k_ ∧ k_ < w4.heap.size) (fun k_ => w5.heap.size ≤ k_) (.slice (some ⟨gB, 0, none⟩) n cB) (.slice (some ⟨gk, 0, none⟩) l0_1.length ck) (.slice (some ⟨gl, 0, none⟩) n cl) (.slice Ao out.length co) w w5 wc (bl.set p1.toNat true) (tk.set p0.toNat true) lost out from ⟨(by rw [hw]; exact below_set hI.hb HGB.out), Nat.le_trans hI.hz hp.2.size, blk_grown hI.hg hp.2 (by have := HG.out; have := HGL.out; intro e_; have e2 : gb = gB := Option.some.inj e_; omega), hp.1, Kd.R_step hI.ht (fun k_ hk hlt => hp.2.block k_ hlt (by have := HGL.out; have hk2 : w2.heap.size ≤ k_ ∧ k_ < w3.heap.size := hk; intro e_; have e2 : k_ = gB := Option.some.inj e_; omega)), Kd.R_step hI.hl (fun k_ hk hlt => hp.2.block k_ hlt (by have := HGL.out; have := HZ23.out; have hk2 : w3.heap.size ≤ k_ ∧ k_ < w4.heap.size := hk; intro e_; have e2 : k_ = gB := Option.some.inj e_; omega)), Kd.R_step hI.ho (fun k_ hk hlt => hp.2.block k_ hlt (by have := HGL.out; have := HZ23.out; have := HZ34.out; have := HZ45.out; have hk2 : w5.heap.size ≤ k_ := hk; intro e_; have e2 : k_ = gB := Option.some.inj e_; omega))⟩); clear hw hp hI) | ((with_reducible refine gate_builtin (b := .append) (xs := #[.tmp 64, .tmp 66]) rfl ?_); at_builtin; refine Kd.R_append (Kd.int .i64) (w0 := w) w.heap.size rfl (.tmp 64) (.tmp 66) 25 3 (.int .i64 0) 8 rfl Try.underlying25 info3 rfl (by decide) (by omega) (.slice Ao out.length co) out p0 [.int .i64 p0] (fun k_ => w5.heap.size ≤ k_) (fun _ => False) rfl rfl rfl (fun _ hk => hk.elim) (fun k_ hk => Nat.le_trans HIc.out.hz hk) HIc.out.ho HIc.out.hb (below_size HIc.out.hb) (by have := HO6.out; omega) ?_; intro vD wD ho hb hgr hat; have HId := Aside0.mk (show spec_l12Walk.Inv n l0_1 A0_1 c0_1 gb (fun k_ => w1.heap.size ≤ k_ ∧ k_ < w2.heap.size) (fun k_ => w2.heap.size ≤ k_ ∧ k_ < w3.heap.size) (fun k_ => w3.heap.size ≤ k_ ∧ k_ < w4.heap.size) (fun k_ => w5.heap.size ≤ k_) (.slice (some ⟨gB, 0, none⟩) n cB) (.slice (some ⟨gk, 0, none⟩) l0_1.length ck) (.slice (some ⟨gl, 0, none⟩) n cl) vD w w5 wD (bl.set p1.toNat true) (tk.set p0.toNat true) lost (out ++ [p0]) from ⟨hb, Nat.le_trans HIc.out.hz hgr.size, blk_grown HIc.out.hg hgr (by intro e_; have e2 := HIc.out.ho.1 gb e_.symm; have := HG.out; have := HZ12.out; have := HZ23.out; have := HZ34.out; have := HZ45.out; omega), Kd.R_step HIc.out.hbl (fun k_ hk hlt => hgr.block k_ hlt (by have hk2 : w1.heap.size ≤ k_ ∧ k_ < w2.heap.size := hk; intro e_; have e2 : w5.heap.size ≤ k_ := HIc.out.ho.1 k_ e_.symm; have := HZ23.out; have := HZ34.out; have := HZ45.out; omega)), Kd.R_step HIc.out.ht (fun k_ hk hlt => hgr.block k_ hlt (by have hk2 : w2.heap.size ≤ k_ ∧ k_ < w3.heap.size := hk; intro e_; have e2 : w5.heap.size ≤ k_ := HIc.out.ho.1 k_ e_.symm; have := HZ34.out; have := HZ45.out; omega)), Kd.R_step HIc.out.hl (fun k_ hk hlt => hgr.block k_ hlt (by have hk2 : w3.heap.size ≤ k_ ∧ k_ < w4.heap.size := hk; intro e_; have e2 : w5.heap.size ≤ k_ := HIc.out.ho.1 k_ e_.symm; have := HZ45.out; omega)), ho⟩); clear ho hb hgr hat))); go_roundg k1; case measure => have := HK1.out; omega
    case rel =>
     have hX := HX2.out; (first | rw [if_pos rfl] at hX | rw [if_pos trivial] at hX); exact ⟨bl.set p1.toNat true, tk.set p0.toNat true, lost, out ++ [p0], ⟨hX⟩, ⟨zz39⟩, ⟨by rw [List.length_set]; exact HN.out.1, by rw [List.length_set]; exact HN.out.2.1, HN.out.2.2⟩, HId⟩
   have e0 : (rd lost p1 == rd l2 p1) = false := beq_eq_false_iff_ne.mpr heq; have HEQ := Aside0.mk heq; clear heq; have hX := HX.out; rw [show spec_l12Walk.cond k1 l2 l3 lost p0 p1 = spec_l02Has.f k1 l3 p0 from if_neg (fun h_ => HEQ.out h_.2)] at hX; replace hX := Option.bind_eq_some_iff.mp hX; obtain ⟨t, ht, hX⟩ := hX; have HX2 := Aside0.mk hX; clear hX; have HTT := Aside0.mk ht; clear ht
   cases t with
   | true =>
    (try go_wp2); (go_quiet (first | (go_at_call 64; (with_reducible refine (spec_l02Has.calls k1 _ _ l3 p0 true _ ?side1 ?side2 HTT.out).mono ?_); (case side1 => exact zz34); (case side2 => exact HCT.out); rintro e w' ⟨rfl, ⟨nd, rfl⟩⟩; (try first | exact ⟨rfl, _, World.drewN_drewN _ _ _⟩ | exact ⟨rfl, _, Eq.trans (World.drewN_drewN _ _ _) (congrArg (World.drewN _) (Nat.add_assoc _ _ _))⟩)))); (go_wp2_with (first | ((with_reducible refine gate_store (t := 4) (p := 63) rfl ?_); refine store_event (t := 4) (p := 63) (v := .const (.bool true)) (w1 := ?wx2_) ?hg ?ho ?hn ?hr ?_; (case ho => rfl); (case hg => rfl); (case hn => rfl); (case hr => exact zz9); intro wc hw0; obtain ⟨mq, hw⟩ : ∃ m, wc = ((wb.drewN m).setCell ⟨gB, p1.toNat, none⟩ (.bool true)) := ⟨_, hw0⟩; clear hw0; have hI := HIb.out.step (pw_below_drewN (Below.refl _ _) mq); have hp := Kd.R_putg hI.hbl p1 true; rw [← hw] at hp; have HIc := Aside0.mk (show spec_l12Walk.Inv n l0_1 A0_1 c0_1 gb (fun k_ => w1.heap.size ≤ k_ ∧ k_ < w2.heap.size) (fun k_ => w2.heap.size ≤ k_ ∧ k_ < w3.heap.size) (fun k_ => w3.heap.size ≤ k_ ∧ k_ < w4.heap.size) (fun k_ => w5.heap.size ≤ k_) (.slice (some ⟨gB, 0, none⟩) n cB) (.slice (some ⟨gk, 0, none⟩) l0_1.length ck) (.slice (some ⟨gl, 0, none⟩) n cl) (.slice Ao out.length co) w w5 wc (bl.set p1.toNat true) (tk.set p0.toNat true) lost out from ⟨(by rw [hw]; exact below_set hI.hb HGB.out), Nat.le_trans hI.hz hp.2.size, blk_grown hI.hg hp.2 (by have := HG.out; have := HGL.out; intro e_; have e2 : gb = gB := Option.some.inj e_; omega), hp.1, Kd.R_step hI.ht (fun k_ hk hlt => hp.2.block k_ hlt (by have := HGL.out; have hk2 : w2.heap.size ≤ k_ ∧ k_ < w3.heap.size := hk; intro e_; have e2 : k_ = gB := Option.some.inj e_; omega)), Kd.R_step hI.hl (fun k_ hk hlt => hp.2.block k_ hlt (by have := HGL.out; have := HZ23.out; have hk2 : w3.heap.size ≤ k_ ∧ k_ < w4.heap.size := hk; intro e_; have e2 : k_ = gB := Option.some.inj e_; omega)), Kd.R_step hI.ho (fun k_ hk hlt => hp.2.block k_ hlt (by have := HGL.out; have := HZ23.out; have := HZ34.out; have := HZ45.out; have hk2 : w5.heap.size ≤ k_ := hk; intro e_; have e2 : k_ = gB := Option.some.inj e_; omega))⟩); clear hw hp hI) | ((with_reducible refine gate_builtin (b := .append) (xs := #[.tmp 64, .tmp 66]) rfl ?_); at_builtin; refine Kd.R_append (Kd.int .i64) (w0 := w) w.heap.size rfl (.tmp 64) (.tmp 66) 25 3 (.int .i64 0) 8 rfl Try.underlying25 info3 rfl (by decide) (by omega) (.slice Ao out.length co) out p0 [.int .i64 p0] (fun k_ => w5.heap.size ≤ k_) (fun _ => False) rfl rfl rfl (fun _ hk => hk.elim) (fun k_ hk => Nat.le_trans HIc.out.hz hk) HIc.out.ho HIc.out.hb (below_size HIc.out.hb) (by have := HO6.out; omega) ?_; intro vD wD ho hb hgr hat; have HId := Aside0.mk (show spec_l12Walk.Inv n l0_1 A0_1 c0_1 gb (fun k_ => w1.heap.size ≤ k_ ∧ k_ < w2.heap.size) (fun k_ => w2.heap.size ≤ k_ ∧ k_ < w3.heap.size) (fun k_ => w3.heap.size ≤ k_ ∧ k_ < w4.heap.size) (fun k_ => w5.heap.size ≤ k_) (.slice (some ⟨gB, 0, none⟩) n cB) (.slice (some ⟨gk, 0, none⟩) l0_1.length ck) (.slice (some ⟨gl, 0, none⟩) n cl) vD w w5 wD (bl.set p1.toNat true) (tk.set p0.toNat true) lost (out ++ [p0]) from ⟨hb, Nat.le_trans HIc.out.hz hgr.size, blk_grown HIc.out.hg hgr (by intro e_; have e2 := HIc.out.ho.1 gb e_.symm; have := HG.out; have := HZ12.out; have := HZ23.out; have := HZ34.out; have := HZ45.out; omega), Kd.R_step HIc.out.hbl (fun k_ hk hlt => hgr.block k_ hlt (by have hk2 : w1.heap.size ≤ k_ ∧ k_ < w2.heap.size := hk; intro e_; have e2 : w5.heap.size ≤ k_ := HIc.out.ho.1 k_ e_.symm; have := HZ23.out; have := HZ34.out; have := HZ45.out; omega)), Kd.R_step HIc.out.ht (fun k_ hk hlt => hgr.block k_ hlt (by have hk2 : w2.heap.size ≤ k_ ∧ k_ < w3.heap.size := hk; intro e_; have e2 : w5.heap.size ≤ k_ := HIc.out.ho.1 k_ e_.symm; have := HZ34.out; have := HZ45.out; omega)), Kd.R_step HIc.out.hl (fun k_ hk hlt => hgr.block k_ hlt (by have hk2 : w3.heap.size ≤ k_ ∧ k_ < w4.heap.size := hk; intro e_; have e2 : w5.heap.size ≤ k_ := HIc.out.ho.1 k_ e_.symm; have := HZ45.out; omega)), ho⟩); clear ho hb hgr hat))); go_roundg k1; case measure => have := HK1.out; omega
    case rel =>
     have hX := HX2.out; (first | rw [if_pos rfl] at hX | rw [if_pos trivial] at hX); exact ⟨bl.set p1.toNat true, tk.set p0.toNat true, lost, out ++ [p0], ⟨hX⟩, ⟨zz39⟩, ⟨by rw [List.length_set]; exact HN.out.1, by rw [List.length_set]; exact HN.out.2.1, HN.out.2.2⟩, HId⟩
   | false =>
    (try go_wp2); (go_quiet (first | (go_at_call 64; (with_reducible refine (spec_l02Has.calls k1 _ _ l3 p0 false _ ?side1 ?side2 HTT.out).mono ?_); (case side1 => exact zz34); (case side2 => exact HCT.out); rintro e w' ⟨rfl, ⟨nd, rfl⟩⟩; (try first | exact ⟨rfl, _, World.drewN_drewN _ _ _⟩ | exact ⟨rfl, _, Eq.trans (World.drewN_drewN _ _ _) (congrArg (World.drewN _) (Nat.add_assoc _ _ _))⟩)))); (go_wp2_with (first | ((with_reducible refine gate_store (t := 3) (p := 73) rfl ?_); refine store_event (t := 3) (p := 73) (v := ?vo3_) (w1 := ?wx3_) ?hg ?ho ?hn ?hr ?_; (case ho => rfl); (case hg => rfl); (case hn => rfl); (case hr => exact zz9); intro wc hw0; obtain ⟨mq, hw⟩ : ∃ m, wc = ((wb.drewN m).setCell ⟨gl, p1.toNat, none⟩ (.int .i64 (wrap64 (rd lost p1 + 1)))) := ⟨_, hw0⟩; clear hw0; have hI := HIb.out.step (pw_below_drewN (Below.refl _ _) mq); have hp := Kd.R_putg hI.hl p1 (wrap64 (rd lost p1 + 1)); rw [← hw] at hp; have HIc := Aside0.mk (show spec_l12Walk.Inv n l0_1 A0_1 c0_1 gb (fun k_ => w1.heap.size ≤ k_ ∧ k_ < w2.heap.size) (fun k_ => w2.heap.size ≤ k_ ∧ k_ < w3.heap.size) (fun k_ => w3.heap.size ≤ k_ ∧ k_ < w4.heap.size) (fun k_ => w5.heap.size ≤ k_) (.slice (some ⟨gB, 0, none⟩) n cB) (.slice (some ⟨gk, 0, none⟩) l0_1.length ck) (.slice (some ⟨gl, 0, none⟩) n cl) (.slice Ao out.length co) w w5 wc bl (tk.set p0.toNat true) (lost.set p1.toNat (wrap64 (rd lost p1 + 1))) out from ⟨(by rw [hw]; exact below_set hI.hb HGL.out.1), Nat.le_trans hI.hz hp.2.size, blk_grown hI.hg hp.2 (by have := HG.out; have := HGL.out; have := HZ12.out; have := HZ23.out; intro e_; have e2 : gb = gl := Option.some.inj e_; omega), Kd.R_step hI.hbl (fun k_ hk hlt => hp.2.block k_ hlt (by have := HGL.out; have := HZ23.out; have hk2 : w1.heap.size ≤ k_ ∧ k_ < w2.heap.size := hk; intro e_; have e2 : k_ = gl := Option.some.inj e_; omega)), Kd.R_step hI.ht (fun k_ hk hlt => hp.2.block k_ hlt (by have := HGL.out; have hk2 : w2.heap.size ≤ k_ ∧ k_ < w3.heap.size := hk; intro e_; have e2 : k_ = gl := Option.some.inj e_; omega)), hp.1, Kd.R_step hI.ho (fun k_ hk hlt => hp.2.block k_ hlt (by have := HGL.out; have := HZ45.out; have hk2 : w5.heap.size ≤ k_ := hk; intro e_; have e2 : k_ = gl := Option.some.inj e_; omega))⟩); clear hw hp hI))); go_roundg k1; case measure => have := HK1.out; omega
    case rel =>
     have hX := HX2.out; rw [if_neg (by simp)] at hX; exact ⟨bl, tk.set p0.toNat true, lost.set p1.toNat (wrap64 (rd lost p1 + 1)), out, ⟨hX⟩, ⟨zz39⟩, ⟨HN.out.1, by rw [List.length_set]; exact HN.out.2.1, by rw [List.length_set]; exact HN.out.2.2⟩, HIc⟩
def spec_ParkingOfTree.j0 : Nat → List Int → Int → Bool → Int → List (S74) → Option (List Int × Bool)
 | 0, _, _, _, _, _ => none
 | k + 1, x1, x2, x21, x102000, x102001 => if x21 = true then (some (([] : List Int), false)) else (if (x1.length : Int) = 0 then (some ((([(-1)] : List Int)), true)) else (if 0 ≤ x102000 then (if (x102000 : Int).toNat ≤ 35184372088832 then ((spec_l12Walk.f k x102000 x102001 x2 (List.replicate (x102000 : Int).toNat 0) x1).bind fun bt110 => (some (bt110.2, true))) else (none)) else (none)))
def spec_ParkingOfTree.f (k : Nat) (a0_0 : Int) (l0_1 : List (S74)) (l1 : List Int) (a2 : Int) : Option (List Int × Bool) := (spec_IsTree.f k a0_0 l0_1 l1).bind fun t102 => (if t102 = true then ((spec_l01In.f a2 0 (wrap64 (a0_0 - 1))).bind fun t103 => (spec_ParkingOfTree.j0 k l1 a2 (!t103) a0_0 l0_1)) else (spec_ParkingOfTree.j0 k l1 a2 true a0_0 l0_1))
theorem spec_ParkingOfTree.mono_l : ∀ k, (∀ y0 y1 y2 y3 y4, LeO (spec_ParkingOfTree.j0 k y0 y1 y2 y3 y4) (spec_ParkingOfTree.j0 (k + 1) y0 y1 y2 y3 y4))
 | 0 => fun _ _ _ _ _ r h => by simp [spec_ParkingOfTree.j0] at h
 | k + 1 => by
  have ih0 := spec_ParkingOfTree.mono_l k
  ·intro y0 y1 y2 y3 y4
   unfold spec_ParkingOfTree.j0
   exact zm10
theorem spec_ParkingOfTree.mono : ∀ a0 a1 a2 a3 k, LeO (spec_ParkingOfTree.f k a0 a1 a2 a3) (spec_ParkingOfTree.f (k + 1) a0 a1 a2 a3) := by
 intro a0 a1 a2 a3 k; have ih0 := spec_ParkingOfTree.mono_l k; unfold spec_ParkingOfTree.f; exact zm10
def spec_ParkingOfTree.T5 : Bool × List (List Nat × List Nat) := (true, [([], []), ([], []), ([], []), ([2], [2]), ([3, 3], [3]), ([], []), ([0, 1, 4, 5], [0, 1, 4, 5]), ([6], [6]), ([7], [7]), ([7], [7]), ([8, 6, 0, 1, 2, 3, 4, 5, 6, 7, 8], [8]), ([9, 10, 0, 1, 2, 3, 4, 5, 6, 7, 8, 9, 10], [9])])
def spec_ParkingOfTree.B5 : List Nat := [0, 0, 0, 4, 12, 0, 63, 127, 255, 255, 511, 2047]
theorem spec_ParkingOfTree.tab5 : rtab .any (opsOf Try.f8 5) = spec_ParkingOfTree.T5 := by kernel_rfl
theorem spec_ParkingOfTree.bits5 : waitsOk spec_ParkingOfTree.T5.2 spec_ParkingOfTree.B5 = true := by kernel_rfl
set_option maxHeartbeats 8000000 in
set_option maxRecDepth 100000 in
theorem spec_ParkingOfTree.calls (k : Nat) (a0_0 : Int) (A0_1 : Option Addr) (c0_1 : Nat) (l0_1 : List (S74)) (A1 : Option Addr) (c1 : Nat) (l1 : List Int) (a2 : Int) (r1 : List Int) (r2 : Bool) (w : World) (hr0_1 : Kd.C k74 w A0_1 l0_1.length l0_1) (hc0_1 : l0_1.length ≤ c0_1) (hr1 : Kd.C (Kd.int .i64) w A1 l1.length l1) (hc1 : l1.length ≤ c1) (h : spec_ParkingOfTree.f k a0_0 l0_1 l1 a2 = some (r1, r2)) :
  Calls Try.prog 8 #[.agg #[.int .i64 a0_0, .slice A0_1 l0_1.length c0_1], .slice A1 l1.length c1, .int .i64 a2] w fun e w' => ∃ v0_ : Value, e = .returned (.tuple #[v0_, .bool r2]) ∧ Kd.R (Kd.int .i64) 3 w' w.heap.size (fun _ => True) v0_ r1 ∧ Below w.heap.size w w' := by
 have hu31 := Try.underlying31; have HR0_1 := Aside0.mk hr0_1; have HC0_1 := Aside0.mk hc0_1; clear hr0_1 hc0_1; have HR1 := Aside0.mk hr1; have HC1 := Aside0.mk hc1; clear hr1 hc1; have HB := Aside0.mk (Below.refl w.heap.size w); have H : ((spec_IsTree.f k a0_0 l0_1 l1).bind fun t102 => (if t102 = true then ((spec_l01In.f a2 0 (wrap64 (a0_0 - 1))).bind fun t103 => (spec_ParkingOfTree.j0 k l1 a2 (!t103) a0_0 l0_1)) else (spec_ParkingOfTree.j0 k l1 a2 true a0_0 l0_1))) = some (r1, r2) := h; clear h; have HC4 := Aside0.mk H; clear H; go_enter Try.func8, Try.ntmps8; (go_upto_region 1 with (first | ((with_reducible refine gate_dst (N := 3) rfl ?_); refine box_event ?hg (N := 3) ?hd (cs := #[.int .i64 a0_0, .slice A0_1 l0_1.length c0_1]) (t := 31) ?hr ?_; (case hd => rfl); (case hg => rfl); (case hr => exact zz9); intro gb101 hg w5 hbox hb; have n_ := zA4 (below_step zz2 hb) hbox (zz12 : w.heap.size ≤ gb101) (zz12 : w.heap.size ≤ gb101); clear HB; obtain ⟨HB, BK101, GW101, GE101⟩ := n_; clear hb hbox hg))); (try simp only [Act.put, List.setIfInBounds_toArray, List.set_cons_zero, List.set_cons_succ]); go_cut [21] (fun v21 wc => ∃ (kq : Nat) (x21_3 : Bool), v21 = .bool x21_3 ∧ Aside0 (spec_ParkingOfTree.j0 kq l1 a2 x21_3 a0_0 l0_1 = some (r1, r2)) ∧ Aside0 (kq ≤ k) ∧ Aside0 (wc.heap[gb101]? = some (.cells #[.int .i64 a0_0, (.slice A0_1 l0_1.length c0_1)] 31 (0, 0))) ∧ Aside0 (Below w.heap.size w wc))
 case first =>
  have H := HC4.out; clear HC4; replace H := Option.bind_eq_some_iff.mp H; obtain ⟨t102, A60, H⟩ := H; (try dsimp only at H); have A6 := Aside0.mk A60; clear A60; by_cases c7 : t102 = true; rotate_left
  ·replace c7 := Bool.eq_false_iff.mpr c7; subst c7; rw [if_neg (show ¬ (false = true) by decide)] at H; have H' := Aside0.mk H; clear H; have hcz12_0 := zC20 BK101; have hcz12_1 := zC21 BK101; have hfz12_0 := blk_frozen BK101.out 0; have hfz12_1 := blk_frozen BK101.out 1; (go_wp2_with (first | ((with_reducible refine gate_callee (f := 30) rfl ?_); refine goesL_ (some 12) rfl rfl Try.func30 (by kernel_rfl) rfl #[.agg #[.int .i64 a0_0, .slice A0_1 l0_1.length c0_1], .slice A1 l1.length c1] rfl zz3 ?_; (with_reducible refine (spec_IsTree.calls k a0_0 _ _ l0_1 _ _ l1 false _ ?side1 ?side2 ?side3 ?side4 A6.out).mono ?_); (case side1 => exact zz8); (case side2 => exact HC0_1.out); (case side3 => exact zz21); (case side4 => exact HC1.out); rintro e w13 ⟨rfl, hb⟩; refine ⟨_, rfl, ?_⟩; have n_ := zA2 (blk_below (g := gb101) (o := .cells #[.int .i64 a0_0, .slice A0_1 l0_1.length c0_1] 31 (0, 0)) zz1 hb) (below_step zz0 hb); clear BK101 HB; obtain ⟨BK101, HB⟩ := n_; clear hb))); (go_meet); case rel => exact ⟨_, (true), zz7, H', ⟨by first | omega | exact Nat.le_refl _⟩, ⟨zz1⟩, ⟨zz0⟩⟩
  subst c7; rw [if_pos rfl] at H; replace H := Option.bind_eq_some_iff.mp H; obtain ⟨t103, A80, H⟩ := H; (try dsimp only at H); have A8 := Aside0.mk A80; clear A80; have H' := Aside0.mk H; clear H; have hcz9_0 := zC20 BK101; have hcz9_1 := zC21 BK101; have hfz9_0 := blk_frozen BK101.out 0; have hfz9_1 := blk_frozen BK101.out 1; (go_wp2_with (first | ((with_reducible refine gate_callee (f := 30) rfl ?_); refine goesL_ (some 12) rfl rfl Try.func30 (by kernel_rfl) rfl #[.agg #[.int .i64 a0_0, .slice A0_1 l0_1.length c0_1], .slice A1 l1.length c1] rfl zz3 ?_; (with_reducible refine (spec_IsTree.calls k a0_0 _ _ l0_1 _ _ l1 true _ ?side1 ?side2 ?side3 ?side4 A6.out).mono ?_); (case side1 => exact zz8); (case side2 => exact HC0_1.out); (case side3 => exact zz21); (case side4 => exact HC1.out); rintro e w10 ⟨rfl, hb⟩; refine ⟨_, rfl, ?_⟩; have n_ := zA2 (blk_below (g := gb101) (o := .cells #[.int .i64 a0_0, .slice A0_1 l0_1.length c0_1] 31 (0, 0)) zz1 hb) (below_step zz0 hb); clear BK101 HB; obtain ⟨BK101, HB⟩ := n_; clear hb; have hcz11_0 := zC20 BK101; have hcz11_1 := zC21 BK101; have hfz11_0 := blk_frozen BK101.out 0; have hfz11_1 := blk_frozen BK101.out 1) | (go_at_call 31; (with_reducible refine (spec_l01In.calls a2 0 (wrap64 (a0_0 - 1)) t103 _ A8.out).mono ?_); rintro e w' ⟨rfl, ⟨nd, rfl⟩⟩))); (go_meet); case rel => exact ⟨_, (!t103), zz7, H', ⟨by first | omega | exact Nat.le_refl _⟩, ⟨zz1⟩, ⟨zz0⟩⟩
 case rest =>
  clear HC4; (try clear c1); (try clear p2); (try clear c3); (try clear p6); (try clear c7); (try clear c8); (try clear hcz11_0); (try clear hcz11_1); (try clear hcz12_0); (try clear hcz12_1); (try clear hcz9_0); (try clear hcz9_1); (try clear hfz11_0); (try clear hfz11_1); (try clear hfz12_0); (try clear hfz12_1); (try clear hfz9_0); (try clear hfz9_1); obtain ⟨kq, x21_3, rfl, HA, HJ3, BK101, HB⟩ := hcut
  cases kq with
  | zero => exact absurd HA.out (by simp [spec_ParkingOfTree.j0])
  | succ kj3 =>
   have H := HA.out; clear HA; simp only [spec_ParkingOfTree.j0] at H; by_cases c14 : x21_3 = true
   ·subst c14; rw [if_pos rfl] at H; simp only [Option.some.injEq, Prod.mk.injEq] at H; obtain ⟨rfl, rfl⟩ := H; go_wp2; (go_ret2); exact ⟨_, zz6, by first | exact Kd.R_nil _ _ _ _ _ | exact Kd.N_nil _ _ _ _ _ | exact Kd.V_nil _ _ _ _ _ | exact Kd.Q_nil _ _ _ _ _ | exact Kd.S_nil _ _ _ _ _, zz0⟩
   replace c14 := Bool.eq_false_iff.mpr c14; subst c14; rw [if_neg (show ¬ (false = true) by decide)] at H; by_cases c15 : (l1.length : Int) = 0
   ·rw [if_pos c15] at H; have c15b0 : ((l1.length : Int) == 0) = true := beq_iff_eq.mpr c15; have c15b1 : ((l1.length : Int) != 0) = false := bne_eq_false_iff_eq.mpr c15; clear c15; obtain ⟨y104, hy_⟩ : ∃ y_ : List Int, y_ = (([(-1)] : List Int)) := ⟨_, rfl⟩; (replace H : (some (y104, true)) = some (r1, r2) := zzY); have Ny104 := Aside0.mk hy_; clear hy_; simp only [Option.some.injEq, Prod.mk.injEq] at H; obtain ⟨rfl, rfl⟩ := H; (go_wp2_with (first | ((with_reducible refine gate_dst (N := 25) rfl ?_); refine Kd.R_lit (Kd.int .i64) _ 3 ?hg (N := 25) ?hd (xs := ([(-1)] : List Int)) (inner := [.int .i64 (-1)]) (ok := fun _ => True) (okp := fun _ => True) ?hr ?hp (fun _ hk => hk) trivial (Below.refl _ _) (Nat.le_refl _) (by simp) ?_; (case hd => rfl); (case hg => rfl); (case hr => exact zz9); (case hp => exact (Reps.one (show Kd.M (Kd.int .i64) _ _ _ (-1) [.int .i64 (-1)] from rfl) (Reps.none _ _))); intro v105 w16 ho17 hb hg_ hnew_; clear hg_ hnew_; (first | rw [← Ny104.out] at ho17 | (simp only [Int.reduceToNat] at ho17; rw [← Ny104.out] at ho17)); have n_ := zA3 (Kd.R_lower ho17 (below_size zz0)) (blk_below (g := gb101) (o := .cells #[.int .i64 a0_0, .slice A0_1 l0_1.length c0_1] 31 (0, 0)) zz1 hb) (below_step zz0 hb); clear BK101 HB; obtain ⟨HO106, BK101, HB⟩ := n_; clear hb ho17))); (go_ret2); exact ⟨_, zz6, by (with_reducible repeat (first | apply Kd.R_alloc | apply Kd.R_drewN | apply Kd.R_drew)); exact HO106.out, zz0⟩
   rw [if_neg c15] at H; have c15b0 : ((l1.length : Int) == 0) = false := beq_eq_false_iff_ne.mpr c15; have c15b1 : ((l1.length : Int) != 0) = true := bne_iff_ne.mpr c15; (have c15b2 : ¬ (l1 = []) := fun h_ => c15 (by rw [h_]; rfl)); by_cases c18 : 0 ≤ a0_0; rotate_left
   ·rw [if_neg c18] at H; exact absurd H (by simp)
   rw [if_pos c18] at H; have c18b0 := eq_true c18; have c18b1 : decide (0 ≤ a0_0) = true := decide_eq_true c18; clear c18; by_cases c19 : (a0_0 : Int).toNat ≤ 35184372088832; rotate_left
   ·rw [if_neg c19] at H; exact absurd H (by simp)
   rw [if_pos c19] at H; have c19b0 := eq_true c19; have c19b1 : decide ((a0_0 : Int).toNat ≤ 35184372088832) = true := decide_eq_true c19; clear c19; obtain ⟨y107, hy_⟩ : ∃ y_ : List Int, y_ = (List.replicate (a0_0 : Int).toNat 0) := ⟨_, rfl⟩; (replace H : ((spec_l12Walk.f kj3 a0_0 l0_1 a2 y107 l1).bind fun bt110 => (some (bt110.2, true))) = some (r1, r2) := zzY); have Ny107 := Aside0.mk hy_; clear hy_; replace H := Option.bind_eq_some_iff.mp H; obtain ⟨⟨t110, t113⟩, A200, H⟩ := H; dsimp only at H; have A20 := Aside0.mk A200; clear A200; simp only [Option.some.injEq, Prod.mk.injEq] at H; obtain ⟨rfl, rfl⟩ := H; (try go_wp2); have n_ := zA2 (blk_drew BK101.out) (below_drew1 HB.out); clear BK101 HB; obtain ⟨BK101, HB⟩ := n_; refine start_ (n := 12) (S := fun w' => w'.cell? ⟨gb101, 0, none⟩ = some (.int .i64 a0_0) ∧ w'.cell? ⟨gb101, 1, none⟩ = some (.slice A0_1 l0_1.length c0_1)) (ds := []) (zM 12 0) (by kernel_rfl) rfl rfl ⟨(blk_cell BK101.out 0).trans rfl, (blk_cell BK101.out 1).trans rfl⟩ (fun hHeld => ?_); refine with_tabW spec_ParkingOfTree.tab5 spec_ParkingOfTree.bits5 (fun HT_ HW_ => ?_); generalize wc.drew = w21 at BK101 HB hHeld ⊢; refine zQ 1 28 (zM 12 2) ?_
   refine zQ 2 29 (zM 12 6) ?_
   refine zQ 5 32 (zM 12 38) ?_
   refine take_ (i := 0) (N := some 27) (v := ?_) (a' := ?_) (zM 12 39) rfl rfl (take_ofW HT_.out HW_.out (by kernel_rfl)) (fun _ _ _ h => h) (Or.inl ⟨by rfl, ?_⟩) hHeld ?_ ?_; rotate_left
   ·rintro w' ⟨s0, s1⟩; exact zzT
   rotate_left
   ·exact zzS
   refine take_ (i := 3) (N := some 30) (v := ?_) (a' := ?_) (zM 12 47) rfl rfl (take_ofW HT_.out HW_.out (by kernel_rfl)) (fun _ _ _ h => h) (Or.inl ⟨by rfl, ?_⟩) hHeld ?_ ?_; rotate_left
   ·rintro w' ⟨s0, s1⟩; exact zzT
   rotate_left
   ·exact zzS
   refine one_ (i := 4) (N := some 31) (zM 12 63) rfl rfl (one_of HT_.out (by kernel_rfl)) (by decide) (fun K hK => ?_); refine Kd.R_make_step (Kd.int .i64) _ 3 (by rfl) (N := 31) rfl 25 _ _ rfl a0_0 rfl rfl Try.underlying25 (.int .i64 0) 8 info3 rfl (by decide) (by omega) 0 (ok := fun _ => True) (okp := fun _ => True) rfl (fun _ hk => hk) trivial (of_decide_eq_true zz4) (Nat.le_trans (Nat.mul_le_mul_right _ (of_decide_eq_true zz4 : a0_0.toNat ≤ 35184372088832)) (by omega)) (Below.refl _ _) (Nat.le_refl _) ?_; intro v108 w22 ho23 hb hg_ hnew_; clear hg_ hnew_; (first | rw [← Ny107.out] at ho23 | (simp only [Int.reduceToNat] at ho23; rw [← Ny107.out] at ho23)); have n_ := zA3 (Kd.R_lower ho23 (below_size zz0)) (blk_below (g := gb101) (o := .cells #[.int .i64 a0_0, .slice A0_1 l0_1.length c0_1] 31 (0, 0)) zz1 hb) (below_step zz0 hb); clear BK101 HB; obtain ⟨HO109, BK101, HB⟩ := n_; clear hb ho23; obtain ⟨Ao24, co24, eo24⟩ := Kd.R_slice HO109.out; (first | subst eo24 | (injection eo24 with f1_ f2_ f3_; have f4_ := f1_.symm; have f5_ := f3_.symm; clear f1_ f2_ f3_; subst f4_; subst f5_)); refine hK.out _ _ ⟨(blk_cell BK101.out 0).trans rfl, (blk_cell BK101.out 1).trans rfl⟩ (fun hHeld => ?_); clear hK K; refine norm_ (a' := ?_) ?_ ?_; rotate_left
   ·show Act.put _ (some 31) _ = _; exact zzS
   refine one_ (i := 6) (N := some 33) (zM 12 127) rfl rfl (one_of HT_.out (by kernel_rfl)) (by decide) (fun K hK => ?_); refine goes_ Try.func32 (by kernel_rfl) rfl #[.agg #[.int .i64 a0_0, .slice A0_1 l0_1.length c0_1], .int .i64 a2, .slice Ao24 y107.length co24, .slice A1 l1.length c1] (by rfl) rfl rfl zz3 ?_; (with_reducible refine (spec_l12Walk.calls kj3 a0_0 _ _ l0_1 a2 _ _ y107 _ _ l1 t110 t113 _ ?side1 ?side2 ?side3 ?side4 ?side5 ?side6 A20.out).mono ?_); (case side1 => exact zz8); (case side2 => exact HC0_1.out); (case side3 => repeat (first | exact (Kd.R_reads' HO109.out).2.2 | (with_reducible refine Kd.C_alloc ?_ _) | (with_reducible refine Kd.C_drewN ?_ _) | (with_reducible refine Kd.C_drew ?_))); (case side4 => exact (Kd.R_reads' HO109.out).2.1); (case side5 => exact zz21); (case side6 => exact HC1.out); rintro e w25 ⟨v111, v114, rfl, ho0, ho1, hb⟩; refine ⟨_, rfl, ?_⟩; have n_ := zA5 (Kd.R_mono (Kd.R_told (Kd.R_told (Kd.R_old zz24 hb) (Kd.R_base ho0)) (Kd.R_base ho1)) (fun _ h_ => h_.1)) (Kd.R_lower (Kd.R_new' ho0 (Kd.R_lt zz24)) (below_size zz0)) (Kd.R_lower (Kd.R_new' ho1 (Kd.R_lt zz24)) (below_size zz0)) (blk_below (g := gb101) (o := .cells #[.int .i64 a0_0, .slice A0_1 l0_1.length c0_1] 31 (0, 0)) zz1 hb) (below_step zz0 hb); clear HO109 BK101 HB; obtain ⟨HO109, HO112, HO115, BK101, HB⟩ := n_; clear ho0 ho1 hb; refine hK.out _ _ ⟨(blk_cell BK101.out 0).trans rfl, (blk_cell BK101.out 1).trans rfl⟩ (fun hHeld => ?_); clear hK K; refine norm_ (a' := ?_) ?_ ?_; rotate_left
   ·show Act.put _ (some 33) _ = _; exact zzS
   refine zQ 7 26 (zM 12 255) ?_
   refine zQ 8 34 (zM 12 511) ?_
   refine zQ 9 35 (zM 12 1023) ?_
   refine zQ 10 8 (zM 12 2047) ?_
   refine zQ 11 9 (zM 12 4095) ?_
   refine done_ (done_of HT_.out (by kernel_rfl)) ?_; (try go_wp2); (go_ret2); exact ⟨_, zz6, by (with_reducible repeat (first | apply Kd.R_alloc | apply Kd.R_drewN | apply Kd.R_drew)); exact Kd.R_mono HO115.out (fun _ hk => trivial), zz0⟩
def laws_toEdge.f (a0_0 : Int) (a0_1 : Int) : Option (Int × Int) := some (a0_0, a0_1)
set_option maxHeartbeats 8000000 in
set_option maxRecDepth 100000 in
theorem laws_toEdge.calls (a0_0 : Int) (a0_1 : Int) (r1 : Int) (r2 : Int) (w : World) (h : laws_toEdge.f a0_0 a0_1 = some (r1, r2)) :
  Calls Try.prog 66 #[.agg #[.int .i64 a0_0, .int .i64 a0_1]] w fun e w' => e = .returned (.agg #[.int .i64 r1, .int .i64 r2]) ∧ Below w.heap.size w w' := by
 have hu85 := Try.underlying85; have hu74 := Try.underlying74; have HB := Aside0.mk (Below.refl w.heap.size w); have H : (some (a0_0, a0_1)) = some (r1, r2) := h; clear h; simp only [Option.some.injEq, Prod.mk.injEq] at H; obtain ⟨rfl, rfl⟩ := H; go_enter Try.func66, Try.ntmps66; (go_wp2_with (first | ((with_reducible refine gate_dst (N := 1) rfl ?_); refine box_event ?hg (N := 1) ?hd (cs := #[.int .i64 a0_0, .int .i64 a0_1]) (t := 85) ?hr ?_; (case hd => rfl); (case hg => rfl); (case hr => exact zz9); intro gb101 hg w2 hbox hb; have n_ := zA4 (below_step zz2 hb) hbox (zz12 : w.heap.size ≤ gb101) (zz12 : w.heap.size ≤ gb101); clear HB; obtain ⟨HB, BK101, GW101, GE101⟩ := n_; clear hb hbox hg) | ((with_reducible refine gate_dst (N := 2) rfl ?_); refine box_event ?hg (N := 2) ?hd (cs := #[.int .i64 0, .int .i64 0]) (t := 74) ?hr ?_; (case hd => rfl); (case hg => rfl); (case hr => exact zz9); intro gb102 hg w3 hbox hb; have n_ := zA7 (blk_below (g := gb101) (o := .cells #[.int .i64 a0_0, .int .i64 a0_1] 85 (0, 0)) zz1 hb) (below_step zz0 hb) hbox (zz15 : w.heap.size ≤ gb102) (zz15 : w.heap.size ≤ gb102) (by rw [hg]; exact Nat.ne_of_lt (blk_lt (g := gb101) (o := .cells #[.int .i64 a0_0, .int .i64 a0_1] 85 (0, 0)) zz1) : gb101 ≠ gb102) (by rw [hg]; exact Nat.ne_of_gt (blk_lt (g := gb101) (o := .cells #[.int .i64 a0_0, .int .i64 a0_1] 85 (0, 0)) zz1) : gb102 ≠ gb101); clear BK101 HB; obtain ⟨BK101, HB, BK102, GW102, GE102, NB101_102, NB102_101⟩ := n_; clear hb hbox hg) | ((with_reducible refine gate_dst (N := 3) rfl ?_); refine box_event ?hg (N := 3) ?hd (cs := #[.int .i64 0, .int .i64 0]) (t := 74) ?hr ?_; (case hd => rfl); (case hg => rfl); (case hr => exact zz9); intro gb103 hg w4 hbox hb; have n_ := zA10 (blk_below (g := gb101) (o := .cells #[.int .i64 a0_0, .int .i64 a0_1] 85 (0, 0)) zz1 hb) (blk_below (g := gb102) (o := .cells #[.int .i64 0, .int .i64 0] 74 (0, 0)) zz22 hb) (below_step zz14 hb) hbox (by rw [hg]; exact (below_size zz14) : w.heap.size ≤ gb103) (by rw [hg]; exact (below_size zz14) : w.heap.size ≤ gb103) (by rw [hg]; exact Nat.ne_of_lt (blk_lt (g := gb101) (o := .cells #[.int .i64 a0_0, .int .i64 a0_1] 85 (0, 0)) zz1) : gb101 ≠ gb103) (by rw [hg]; exact Nat.ne_of_gt (blk_lt (g := gb101) (o := .cells #[.int .i64 a0_0, .int .i64 a0_1] 85 (0, 0)) zz1) : gb103 ≠ gb101) (by rw [hg]; exact Nat.ne_of_lt (blk_lt (g := gb102) (o := .cells #[.int .i64 0, .int .i64 0] 74 (0, 0)) zz22) : gb102 ≠ gb103) (by rw [hg]; exact Nat.ne_of_gt (blk_lt (g := gb102) (o := .cells #[.int .i64 0, .int .i64 0] 74 (0, 0)) zz22) : gb103 ≠ gb102); clear BK101 BK102 HB; obtain ⟨BK101, BK102, HB, BK103, GW103, GE103, NB101_103, NB103_101, NB102_103, NB103_102⟩ := n_; clear hb hbox hg; have hnb5 := NB101_102.out; have hnc5 := NB102_101.out; have hnb6 := NB101_103.out; have hnc6 := NB103_101.out; have hcz7_0 := zC20 BK101; have hcz7_1 := zC21 BK101; have hfz7_0 := blk_frozen BK101.out 0; have hfz7_1 := blk_frozen BK101.out 1; have hnb8 := NB103_102.out; have hnc8 := NB102_103.out; have hcz9_0 := zC20 BK103; have hcz9_1 := zC21 BK103; have hfz9_0 := blk_frozen BK103.out 0; have hfz9_1 := blk_frozen BK103.out 1; have hcz10_0 := zC20 BK102; have hcz10_1 := zC21 BK102; have hfz10_0 := blk_frozen BK102.out 0; have hfz10_1 := blk_frozen BK102.out 1))); refine bodyPost_ret (results_cell_row rfl _ _ gb102 74 #[.int .i64 a0_0, .int .i64 a0_1] (0, 0) _ rfl (by (with_reducible repeat (first | refine blk_drewN ?_ _ | refine blk_drew ?_ | refine blk_alloc ?_ _)); refine blk_put (cs := #[.int .i64 a0_0, .int .i64 0]) ?_ 1 _ rfl; (with_reducible repeat (first | refine blk_drewN ?_ _ | refine blk_drew ?_ | refine blk_alloc ?_ _)); refine blk_put (cs := #[.int .i64 0, .int .i64 0]) ?_ 0 _ rfl; (with_reducible repeat (first | refine blk_drewN ?_ _ | refine blk_drew ?_ | refine blk_alloc ?_ _)); refine blk_far ?_ NB102_103.out _; (with_reducible repeat (first | refine blk_drewN ?_ _ | refine blk_drew ?_ | refine blk_alloc ?_ _)); refine blk_far ?_ NB102_103.out _; (with_reducible repeat (first | refine blk_drewN ?_ _ | refine blk_drew ?_ | refine blk_alloc ?_ _)); exact BK102.out) Try.underlying74 rfl (by kernel_rfl)) rfl ?_; exact ⟨zz6, by repeat (first | (with_reducible first | exact HB.out | apply below_alloc | apply pw_below_drewN | apply below_drew1 | refine below_set ?_ GE101.out | refine below_set ?_ GE102.out | refine below_set ?_ GE103.out) | exact HB.out)⟩
def laws_toEdgeS.l0 : Nat → List (S85) → List (S74) → Int → Option ((List (S74)))
 | 0, _, _, _ => none
 | k + 1, x0, x3, x4 => if x4 < (x0.length : Int) then (if 0 ≤ x4 then ((laws_toEdge.f ((rd_T85 x0 x4).f0) ((rd_T85 x0 x4).f1)).bind fun bt105 => (if x4 < (x3.length : Int) then (laws_toEdgeS.l0 k x0 (x3.set (x4 : Int).toNat (⟨bt105.1, bt105.2⟩ : S74)) (wrap64 (x4 + 1))) else (none))) else (none)) else (some x3)
def laws_toEdgeS.f (k : Nat) (l0 : List (S85)) : Option ((List (S74))) := if 0 ≤ (l0.length : Int) then (if ((l0.length : Int) : Int).toNat ≤ 17592186044416 then (laws_toEdgeS.l0 k l0 (List.replicate ((l0.length : Int) : Int).toNat z74) 0) else (none)) else (none)
theorem laws_toEdgeS.mono_l : ∀ k, (∀ y0 y1 y2, LeO (laws_toEdgeS.l0 k y0 y1 y2) (laws_toEdgeS.l0 (k + 1) y0 y1 y2))
 | 0 => fun _ _ _ r h => by simp [laws_toEdgeS.l0] at h
 | k + 1 => by
  have ih0 := laws_toEdgeS.mono_l k
  ·intro y0 y1 y2
   unfold laws_toEdgeS.l0
   exact zm1
theorem laws_toEdgeS.mono : ∀ a0 k, LeO (laws_toEdgeS.f k a0) (laws_toEdgeS.f (k + 1) a0) := by
 intro a0 k; have ih0 := laws_toEdgeS.mono_l k; unfold laws_toEdgeS.f; exact zm1
set_option maxHeartbeats 8000000 in
set_option maxRecDepth 100000 in
theorem laws_toEdgeS.calls (k : Nat) (A0 : Option Addr) (c0 : Nat) (l0 : List (S85)) (r : List (S74)) (w : World) (hr0 : Kd.C k85 w A0 l0.length l0) (hc0 : l0.length ≤ c0) (h : laws_toEdgeS.f k l0 = some r) :
  Calls Try.prog 33 #[.slice A0 l0.length c0] w fun e w' => ∃ v0_ : Value, e = .returned (v0_) ∧ Kd.R k74 74 w' w.heap.size (fun _ => True) v0_ r ∧ Below w.heap.size w w' := by
 have hu85 := Try.underlying85; have hu74 := Try.underlying74; have HR0 := Aside0.mk hr0; have HC0 := Aside0.mk hc0; clear hr0 hc0; have HB := Aside0.mk (Below.refl w.heap.size w); have H : (if 0 ≤ (l0.length : Int) then (if ((l0.length : Int) : Int).toNat ≤ 17592186044416 then (laws_toEdgeS.l0 k l0 (List.replicate ((l0.length : Int) : Int).toNat z74) 0) else (none)) else (none)) = some r := h; clear h; by_cases c2 : 0 ≤ (l0.length : Int); rotate_left
 ·rw [if_neg c2] at H; exact absurd H (by simp)
 rw [if_pos c2] at H; have c2b0 := eq_true c2; have c2b1 : decide (0 ≤ (l0.length : Int)) = true := decide_eq_true c2; clear c2; by_cases c3 : ((l0.length : Int) : Int).toNat ≤ 17592186044416; rotate_left
 ·rw [if_neg c3] at H; exact absurd H (by simp)
 rw [if_pos c3] at H; have c3b0 := eq_true c3; have c3b1 : decide (((l0.length : Int) : Int).toNat ≤ 17592186044416) = true := decide_eq_true c3; clear c3; obtain ⟨y101, hy_⟩ : ∃ y_ : List (S74), y_ = (List.replicate ((l0.length : Int) : Int).toNat z74) := ⟨_, rfl⟩; (replace H : (laws_toEdgeS.l0 k l0 y101 0) = some r := zzY); have Ny101 := Aside0.mk hy_; clear hy_; have H' := Aside0.mk H; clear H; go_enter Try.func33, Try.ntmps33; (go_wp2_with (first | ((with_reducible refine gate_dst (N := 7) rfl ?_); refine Kd.R_make k74 _ 74 rfl (N := 7) rfl 29 _ _ rfl (l0.length : Int) rfl rfl Try.underlying29 (.agg #[(.int .i64 0), (.int .i64 0)]) 16 info74 rfl (by decide) (by omega) z74 (ok := fun _ => True) (okp := fun _ => True) (k74_mkM _ _ _ z74 ) (fun _ hk => hk) trivial (of_decide_eq_true zz4) (Nat.le_trans (Nat.mul_le_mul_right _ (of_decide_eq_true zz4 : (l0.length : Int).toNat ≤ 17592186044416)) (by omega)) (Below.refl _ _) (Nat.le_refl _) ?_; intro v102 w4 ho5 hb hg_ hnew_; clear hg_ hnew_; (first | rw [← Ny101.out] at ho5 | (simp only [Int.reduceToNat] at ho5; rw [← Ny101.out] at ho5)); have n_ := zA2 (Kd.R_lower ho5 (below_size zz2)) (below_step zz2 hb); clear HB; obtain ⟨HO103, HB⟩ := n_; clear hb ho5))); (go_loopg [4] k (fun kq v4 w' => ∃ (x3_1 : List (S74)) (x4_1 : Int), v4 = .int .i64 x4_1 ∧ Aside0 (laws_toEdgeS.l0 kq l0 x3_1 x4_1 = some r) ∧ Aside0 (kq ≤ k) ∧ Aside0 (Kd.R k74 74 w' w.heap.size (fun _ => True) v102 x3_1) ∧ Aside0 (Below w.heap.size w w'))); case atStart => exact ⟨(y101), (0), zz7, H', ⟨Nat.le_refl _⟩, ⟨by (with_reducible repeat (first | apply Kd.R_alloc | apply Kd.R_drewN | apply Kd.R_drew)); exact HO103.out⟩, ⟨zz2⟩⟩
 case round =>
  clear H'; (try clear c2); (try clear c2b0); (try clear c2b1); (try clear p2); (try clear c3); (try clear c3b0); (try clear c3b1); obtain ⟨x3_1, x4_1, rfl, HA, HK1, HO_3, HB⟩ := hrel
  cases gk with
  | zero => exact absurd HA.out (by simp [laws_toEdgeS.l0])
  | succ k1 =>
   have H := HA.out; clear HA; simp only [laws_toEdgeS.l0] at H; by_cases c6 : x4_1 < (l0.length : Int); rotate_left
   ·rw [if_neg c6] at H; have c6b0 := decide_eq_false c6; clear c6; obtain rfl := Option.some.inj H; go_wp2; go_ret; exact ⟨_, zz6, zz17, zz2⟩
   rw [if_pos c6] at H; have c6b0 := decide_eq_true c6; clear c6; by_cases c7 : 0 ≤ x4_1; rotate_left
   ·rw [if_neg c7] at H; exact absurd H (by simp)
   rw [if_pos c7] at H; have c7b0 := decide_eq_true c7; clear c7; replace H := Option.bind_eq_some_iff.mp H; obtain ⟨⟨t105, t106⟩, A80, H⟩ := H; dsimp only at H; have A8 := Aside0.mk A80; clear A80; by_cases c9 : x4_1 < (x3_1.length : Int); rotate_left
   ·rw [if_neg c9] at H; exact absurd H (by simp)
   rw [if_pos c9] at H; have c9b0 := decide_eq_true c9; clear c9; obtain ⟨y107, hy_⟩ : ∃ y_ : List (S74), y_ = (x3_1.set (x4_1 : Int).toNat (⟨t105, t106⟩ : S74)) := ⟨_, rfl⟩; (replace H : (laws_toEdgeS.l0 k1 l0 y107 (wrap64 (x4_1 + 1))) = some r := zzY); have Ny107 := Aside0.mk hy_; clear hy_; have H' := Aside0.mk H; clear H; have p104 : 0 ≤ (x4_1 : Int) := of_decide_eq_true zz4; have q104 : x4_1 < (l0.length : Int) := of_decide_eq_true zz4; obtain ⟨ad104, e104, hx104_0, hx104_1⟩ := at_T85 HR0.out x4_1 p104 q104; cases e104; replace hx104_0 := (HB.out.cell (World.block_lt_of_cell? w _ hx104_0)).trans hx104_0; replace hx104_1 := (HB.out.cell (World.block_lt_of_cell? w _ hx104_1)).trans hx104_1; replace p104 := eq_true p104; replace q104 := eq_true q104; (go_wp2_with (first | ((with_reducible refine gate_callee (f := 66) rfl ?_); refine goesL_ (some 20) rfl rfl Try.func66 (by kernel_rfl) rfl #[.agg #[.int .i64 ((rd_T85 l0 x4_1).f0), .int .i64 ((rd_T85 l0 x4_1).f1)]] rfl zz3 ?_; (with_reducible refine (laws_toEdge.calls ((rd_T85 l0 x4_1).f0) ((rd_T85 l0 x4_1).f1) t105 t106 _ A8.out).mono ?_); rintro e w11 ⟨rfl, hb⟩; refine ⟨_, rfl, ?_⟩; have n_ := zA2 (Kd.R_below zz17 hb) (below_step zz2 hb); clear HO_3 HB; obtain ⟨HO_3, HB⟩ := n_; clear hb; have p10 : 0 ≤ (x4_1 : Int) := of_decide_eq_true zz4; have q10 : (x4_1 : Int) < ((x3_1.length : Int) : Int) := of_decide_eq_true zz4; obtain ⟨go10, co10, eo10, gb10, gl10, cl10, HG10⟩ := Kd.R_form HO_3.out (by omega); (first | cases eo10 | (injection eo10 with ea_ en_ ec_; (first | subst ea_ | (injection ea_ with ea_; subst ea_)); subst ec_; clear en_)); have GB10 := Aside0.mk gb10; have GG10 := Aside0.mk HG10; clear gb10 gl10 HG10; obtain ⟨ce10, hcl10, hM10, hcc10, hfr10⟩ := Kd.R_elem HO_3.out z74 (x4_1 : Int) p10 q10; obtain rfl := k74_openM hM10; have hx10_0 : w11.cell? ⟨go10, (x4_1 : Int).toNat * 2, none⟩ = some (.int .i64 ((rd_T74 x3_1 x4_1).f0)) := hcc10 0 _ rfl; have hx10_1 : w11.cell? ⟨go10, (x4_1 : Int).toNat * 2 + 1, none⟩ = some (.int .i64 ((rd_T74 x3_1 x4_1).f1)) := hcc10 1 _ rfl; have hf10_0 : w11.frozen? ⟨go10, (x4_1 : Int).toNat * 2, none⟩ = false := hfr10 0; have hf10_1 : w11.frozen? ⟨go10, (x4_1 : Int).toNat * 2 + 1, none⟩ = false := hfr10 1; clear hcl10 hcc10 hfr10; (try clear hM10); replace p10 := eq_true p10; replace q10 := eq_true q10; have HX12 := Aside0.mk (show Kd.R k74 74 w11 w.heap.size (fun _ => True) (.slice (some ⟨go10, 0, none⟩) x3_1.length co10) x3_1 from zz17); obtain ⟨ce12, hcl12, hM12, hcc12, hfr12⟩ := Kd.R_elem HX12.out z74 (x4_1 : Int) (of_decide_eq_true zz4) (by have h_ : (x4_1 : Int) < ((x3_1.length : Int) : Int) := of_decide_eq_true zz4; first | exact h_ | (have e_ := (Kd.R_reads' HO_3.out).1; omega) | simpa using h_); obtain rfl := k74_openM hM12; have HP12 := Kd.R_seg HX12.out (x4_1 : Int) (of_decide_eq_true zz4) (by have h_ : (x4_1 : Int) < ((x3_1.length : Int) : Int) := of_decide_eq_true zz4; first | exact h_ | (have e_ := (Kd.R_reads' HO_3.out).1; omega) | simpa using h_) (seg := [.int .i64 t105, .int .i64 t106]) (j := 0) hcl12 hcc12 (show 2 ≤ 2 from by decide) (x' := (⟨t105, t106⟩ : S74)) (k74_mkM _ _ _ (⟨t105, t106⟩ : S74) ) (fun _ hk => hk); have hx12_0 := hcc12 0 _ rfl; (try simp only [show (k74).sz = 2 from rfl, Nat.mul_one, Nat.add_zero] at hx12_0); have hf12_0 := hfr12 0; (try simp only [show (k74).sz = 2 from rfl, Nat.mul_one, Nat.add_zero] at hf12_0); have hx12_1 := hcc12 1 _ rfl; (try simp only [show (k74).sz = 2 from rfl, Nat.mul_one, Nat.add_zero] at hx12_1); have hf12_1 := hfr12 1; (try simp only [show (k74).sz = 2 from rfl, Nat.mul_one, Nat.add_zero] at hf12_1); clear hcl12 hcc12 hfr12; (try clear hM12)) | ((with_reducible refine gate_store (t := 74) (p := 21) rfl ?_); refine store_event (t := 74) (p := 21) (v := ?vo_w13) (w1 := ((w11.setCell ⟨go10, (x4_1 : Int).toNat * 2, none⟩ (.int .i64 t105)).setCell ⟨go10, (x4_1 : Int).toNat * 2 + 1, none⟩ (.int .i64 t106))) ?hg ?ho ?hn ?hr ?_; (case ho => rfl); (case hg => rfl); (case hn => rfl); (case hr => exact zz9); intro w13 hw; have hg : w11.grownBy w13 (some go10) := (by rw [hw]; exact HP12.2); have hp_ : Kd.R k74 74 w13 w.heap.size (fun _ => True) (.slice (some ⟨go10, 0, none⟩) x3_1.length co10) y107 := (by rw [hw, Ny107.out]; exact HP12.1); clear HP12; have n_ := zA2 hp_ (by rw [hw]; exact below_set (below_set (HB.out) GB10.out) GB10.out : Below w.heap.size w w13); clear HO_3 HB; obtain ⟨HO_3, HB⟩ := n_; clear hg hw hp_))); go_roundg k1; (case measure => have := HK1.out; omega); case rel => exact ⟨(y107), (wrap64 (x4_1 + 1)), zz7, H', ⟨zz39⟩, ⟨zz17⟩, ⟨zz2⟩⟩
def laws_toGraph.f (k : Nat) (a0_0 : Int) (l0_1 : List (S85)) : Option (Int × (List (S74))) := (laws_toEdgeS.f k l0_1).bind fun t104 => (some (a0_0, t104))
theorem laws_toGraph.mono : ∀ a0 a1 k, LeO (laws_toGraph.f k a0 a1) (laws_toGraph.f (k + 1) a0 a1) := by
 intro a0 a1 k; unfold laws_toGraph.f; repeat' first | (with_reducible apply laws_toEdgeS.mono) | (with_reducible exact LeO.refl _) | (with_reducible exact LeO.none _) | (with_reducible refine LeO.ite ?_ ?_) | (with_reducible refine LeO.bind ?_ (fun _ => ?_)) | apply laws_toEdgeS.mono | exact LeO.none _ | refine LeO.ite ?_ ?_ | refine LeO.bind ?_ (fun _ => ?_)
set_option maxHeartbeats 8000000 in
set_option maxRecDepth 100000 in
theorem laws_toGraph.calls (k : Nat) (a0_0 : Int) (A0_1 : Option Addr) (c0_1 : Nat) (l0_1 : List (S85)) (r1 : Int) (r2 : List (S74)) (w : World) (hr0_1 : Kd.C k85 w A0_1 l0_1.length l0_1) (hc0_1 : l0_1.length ≤ c0_1) (h : laws_toGraph.f k a0_0 l0_1 = some (r1, r2)) :
  Calls Try.prog 9 #[.agg #[.int .i64 a0_0, .slice A0_1 l0_1.length c0_1]] w fun e w' => ∃ v1_ : Value, e = .returned (.agg #[.int .i64 r1, v1_]) ∧ Kd.R k74 74 w' w.heap.size (fun _ => True) v1_ r2 ∧ Below w.heap.size w w' := by
 have hu24 := Try.underlying24; have hu31 := Try.underlying31; have HR0_1 := Aside0.mk hr0_1; have HC0_1 := Aside0.mk hc0_1; clear hr0_1 hc0_1; have HB := Aside0.mk (Below.refl w.heap.size w); have H : ((laws_toEdgeS.f k l0_1).bind fun t104 => (some (a0_0, t104))) = some (r1, r2) := h; clear h; replace H := Option.bind_eq_some_iff.mp H; obtain ⟨t104, A20, H⟩ := H; (try dsimp only at H); have A2 := Aside0.mk A20; clear A20; simp only [Option.some.injEq, Prod.mk.injEq] at H; obtain ⟨rfl, rfl⟩ := H; go_enter Try.func9, Try.ntmps9; (go_wp2_with (first | ((with_reducible refine gate_dst (N := 1) rfl ?_); refine box_event ?hg (N := 1) ?hd (cs := #[.int .i64 a0_0, .slice A0_1 l0_1.length c0_1]) (t := 24) ?hr ?_; (case hd => rfl); (case hg => rfl); (case hr => exact zz9); intro gb101 hg w3 hbox hb; have n_ := zA4 (below_step zz2 hb) hbox (zz12 : w.heap.size ≤ gb101) (zz12 : w.heap.size ≤ gb101); clear HB; obtain ⟨HB, BK101, GW101, GE101⟩ := n_; clear hb hbox hg) | ((with_reducible refine gate_dst (N := 2) rfl ?_); refine box_event ?hg (N := 2) ?hd (cs := #[.int .i64 0, .slice none 0 0]) (t := 31) ?hr ?_; (case hd => rfl); (case hg => rfl); (case hr => exact zz9); intro gb102 hg w4 hbox hb; have n_ := zA7 (blk_below (g := gb101) (o := .cells #[.int .i64 a0_0, .slice A0_1 l0_1.length c0_1] 24 (0, 0)) zz1 hb) (below_step zz0 hb) hbox (zz15 : w.heap.size ≤ gb102) (zz15 : w.heap.size ≤ gb102) (by rw [hg]; exact Nat.ne_of_lt (blk_lt (g := gb101) (o := .cells #[.int .i64 a0_0, .slice A0_1 l0_1.length c0_1] 24 (0, 0)) zz1) : gb101 ≠ gb102) (by rw [hg]; exact Nat.ne_of_gt (blk_lt (g := gb101) (o := .cells #[.int .i64 a0_0, .slice A0_1 l0_1.length c0_1] 24 (0, 0)) zz1) : gb102 ≠ gb101); clear BK101 HB; obtain ⟨BK101, HB, BK102, GW102, GE102, NB101_102, NB102_101⟩ := n_; clear hb hbox hg) | ((with_reducible refine gate_dst (N := 3) rfl ?_); refine box_event ?hg (N := 3) ?hd (cs := #[.int .i64 0, .slice none 0 0]) (t := 31) ?hr ?_; (case hd => rfl); (case hg => rfl); (case hr => exact zz9); intro gb103 hg w5 hbox hb; have n_ := zA10 (blk_below (g := gb101) (o := .cells #[.int .i64 a0_0, .slice A0_1 l0_1.length c0_1] 24 (0, 0)) zz1 hb) (blk_below (g := gb102) (o := .cells #[.int .i64 0, .slice none 0 0] 31 (0, 0)) zz22 hb) (below_step zz14 hb) hbox (by rw [hg]; exact (below_size zz14) : w.heap.size ≤ gb103) (by rw [hg]; exact (below_size zz14) : w.heap.size ≤ gb103) (by rw [hg]; exact Nat.ne_of_lt (blk_lt (g := gb101) (o := .cells #[.int .i64 a0_0, .slice A0_1 l0_1.length c0_1] 24 (0, 0)) zz1) : gb101 ≠ gb103) (by rw [hg]; exact Nat.ne_of_gt (blk_lt (g := gb101) (o := .cells #[.int .i64 a0_0, .slice A0_1 l0_1.length c0_1] 24 (0, 0)) zz1) : gb103 ≠ gb101) (by rw [hg]; exact Nat.ne_of_lt (blk_lt (g := gb102) (o := .cells #[.int .i64 0, .slice none 0 0] 31 (0, 0)) zz22) : gb102 ≠ gb103) (by rw [hg]; exact Nat.ne_of_gt (blk_lt (g := gb102) (o := .cells #[.int .i64 0, .slice none 0 0] 31 (0, 0)) zz22) : gb103 ≠ gb102); clear BK101 BK102 HB; obtain ⟨BK101, BK102, HB, BK103, GW103, GE103, NB101_103, NB103_101, NB102_103, NB103_102⟩ := n_; clear hb hbox hg; have hnb6 := NB101_102.out; have hnc6 := NB102_101.out; have hnb7 := NB101_103.out; have hnc7 := NB103_101.out; have hcz8_0 := zC20 BK101; have hcz8_1 := zC21 BK101; have hfz8_0 := blk_frozen BK101.out 0; have hfz8_1 := blk_frozen BK101.out 1; have hnb9 := NB103_102.out; have hnc9 := NB102_103.out; have hcz10_0 := zC20 BK103; have hcz10_1 := zC21 BK103; have hfz10_0 := blk_frozen BK103.out 0; have hfz10_1 := blk_frozen BK103.out 1) | ((with_reducible refine gate_callee (f := 33) rfl ?_); refine goesL_ (some 9) rfl rfl Try.func33 (by kernel_rfl) rfl #[.slice A0_1 l0_1.length c0_1] rfl zz3 ?_; (with_reducible refine (laws_toEdgeS.calls k _ _ l0_1 t104 _ ?side1 ?side2 A2.out).mono ?_); (case side1 => exact Kd.C_below HR0_1.out zz40); (case side2 => exact HC0_1.out); rintro e w11 ⟨v105, rfl, ho0, hb⟩; refine ⟨_, rfl, ?_⟩; have n_ := zA5 (Kd.R_lower ho0 (below_size zz40)) (blk_below (g := gb101) (o := .cells #[.int .i64 a0_0, .slice A0_1 l0_1.length c0_1] 24 (0, 0)) (by (with_reducible repeat (first | refine blk_drewN ?_ _ | refine blk_drew ?_ | refine blk_alloc ?_ _)); refine blk_far ?_ NB101_103.out _; (with_reducible repeat (first | refine blk_drewN ?_ _ | refine blk_drew ?_ | refine blk_alloc ?_ _)); exact BK101.out) hb) (blk_below (g := gb102) (o := .cells #[.int .i64 0, .slice none 0 0] 31 (0, 0)) (by (with_reducible repeat (first | refine blk_drewN ?_ _ | refine blk_drew ?_ | refine blk_alloc ?_ _)); refine blk_far ?_ NB102_103.out _; (with_reducible repeat (first | refine blk_drewN ?_ _ | refine blk_drew ?_ | refine blk_alloc ?_ _)); exact BK102.out) hb) (blk_below (g := gb103) (o := .cells #[.int .i64 a0_0, .slice none 0 0] 31 (0, 0)) (by (with_reducible repeat (first | refine blk_drewN ?_ _ | refine blk_drew ?_ | refine blk_alloc ?_ _)); refine blk_put (cs := #[.int .i64 0, .slice none 0 0]) ?_ 0 _ rfl; (with_reducible repeat (first | refine blk_drewN ?_ _ | refine blk_drew ?_ | refine blk_alloc ?_ _)); exact BK103.out) hb) (below_step zz40 hb); clear BK101 BK102 BK103 HB; obtain ⟨HO106, BK101, BK102, BK103, HB⟩ := n_; clear ho0 hb; obtain ⟨Ao12, co12, eo12⟩ := Kd.R_slice HO106.out; subst eo12; have hcz13_0 := zC20 BK103; have hcz13_1 := zC21 BK103; have hfz13_0 := blk_frozen BK103.out 0; have hfz13_1 := blk_frozen BK103.out 1; have hcz14_0 := zC20 BK102; have hcz14_1 := zC21 BK102; have hfz14_0 := blk_frozen BK102.out 0; have hfz14_1 := blk_frozen BK102.out 1))); refine bodyPost_ret (results_cell_row rfl _ _ gb102 31 #[.int .i64 a0_0, .slice Ao12 t104.length co12] (0, 0) _ rfl (by (with_reducible repeat (first | refine blk_drewN ?_ _ | refine blk_drew ?_ | refine blk_alloc ?_ _)); refine blk_put (cs := #[.int .i64 a0_0, .slice none 0 0]) ?_ 1 _ rfl; (with_reducible repeat (first | refine blk_drewN ?_ _ | refine blk_drew ?_ | refine blk_alloc ?_ _)); refine blk_put (cs := #[.int .i64 0, .slice none 0 0]) ?_ 0 _ rfl; (with_reducible repeat (first | refine blk_drewN ?_ _ | refine blk_drew ?_ | refine blk_alloc ?_ _)); refine blk_far ?_ NB102_103.out _; (with_reducible repeat (first | refine blk_drewN ?_ _ | refine blk_drew ?_ | refine blk_alloc ?_ _)); exact BK102.out) Try.underlying31 rfl (by kernel_rfl)) rfl ?_; exact ⟨_, zz6, by (with_reducible repeat (first | apply Kd.R_alloc | apply Kd.R_drewN | apply Kd.R_drew)); exact Kd.R_mono (Kd.R_far (p := ⟨gb102, 1, none⟩) (Kd.R_far (p := ⟨gb102, 0, none⟩) (Kd.R_far (p := ⟨gb103, 1, none⟩) (Kd.R_types (Kd.R_types HO106.out BK103.out (by decide)) BK102.out (by decide)) (fun _ hk => hk.1.2) (.slice Ao12 t104.length co12)) (fun _ hk => hk.2) (.int .i64 a0_0)) (fun _ hk => hk.2) (.slice Ao12 t104.length co12)) (fun _ hk => trivial), by repeat (first | (with_reducible first | exact HB.out | apply below_alloc | apply pw_below_drewN | apply below_drew1 | refine below_set ?_ GE101.out | refine below_set ?_ GE102.out | refine below_set ?_ GE103.out) | exact HB.out)⟩
def laws_toIntS.l0 : Nat → List Int → List Int → Int → Option (List Int)
 | 0, _, _, _ => none
 | k + 1, x0, x3, x4 => if x4 < (x0.length : Int) then (if 0 ≤ x4 then (if x4 < (x3.length : Int) then (laws_toIntS.l0 k x0 (x3.set (x4 : Int).toNat (rd x0 x4)) (wrap64 (x4 + 1))) else (none)) else (none)) else (some x3)
def laws_toIntS.f (k : Nat) (l0 : List Int) : Option (List Int) := if 0 ≤ (l0.length : Int) then (if ((l0.length : Int) : Int).toNat ≤ 35184372088832 then (laws_toIntS.l0 k l0 (List.replicate ((l0.length : Int) : Int).toNat 0) 0) else (none)) else (none)
theorem laws_toIntS.mono_l : ∀ k, (∀ y0 y1 y2, LeO (laws_toIntS.l0 k y0 y1 y2) (laws_toIntS.l0 (k + 1) y0 y1 y2))
 | 0 => fun _ _ _ r h => by simp [laws_toIntS.l0] at h
 | k + 1 => by
  have ih0 := laws_toIntS.mono_l k
  ·intro y0 y1 y2
   unfold laws_toIntS.l0
   exact zm1
theorem laws_toIntS.mono : ∀ a0 k, LeO (laws_toIntS.f k a0) (laws_toIntS.f (k + 1) a0) := by
 intro a0 k; have ih0 := laws_toIntS.mono_l k; unfold laws_toIntS.f; exact zm1
set_option maxHeartbeats 8000000 in
set_option maxRecDepth 100000 in
theorem laws_toIntS.calls (k : Nat) (A0 : Option Addr) (c0 : Nat) (l0 : List Int) (r : List Int) (w : World) (hr0 : Kd.C (Kd.int .i64) w A0 l0.length l0) (hc0 : l0.length ≤ c0) (h : laws_toIntS.f k l0 = some r) :
  Calls Try.prog 10 #[.slice A0 l0.length c0] w fun e w' => ∃ v0_ : Value, e = .returned (v0_) ∧ Kd.R (Kd.int .i64) 3 w' w.heap.size (fun _ => True) v0_ r ∧ Below w.heap.size w w' := by
 have HR0 := Aside0.mk hr0; have HC0 := Aside0.mk hc0; clear hr0 hc0; have HB := Aside0.mk (Below.refl w.heap.size w); have H : (if 0 ≤ (l0.length : Int) then (if ((l0.length : Int) : Int).toNat ≤ 35184372088832 then (laws_toIntS.l0 k l0 (List.replicate ((l0.length : Int) : Int).toNat 0) 0) else (none)) else (none)) = some r := h; clear h; by_cases c2 : 0 ≤ (l0.length : Int); rotate_left
 ·rw [if_neg c2] at H; exact absurd H (by simp)
 rw [if_pos c2] at H; have c2b0 := eq_true c2; have c2b1 : decide (0 ≤ (l0.length : Int)) = true := decide_eq_true c2; clear c2; by_cases c3 : ((l0.length : Int) : Int).toNat ≤ 35184372088832; rotate_left
 ·rw [if_neg c3] at H; exact absurd H (by simp)
 rw [if_pos c3] at H; have c3b0 := eq_true c3; have c3b1 : decide (((l0.length : Int) : Int).toNat ≤ 35184372088832) = true := decide_eq_true c3; clear c3; obtain ⟨y101, hy_⟩ : ∃ y_ : List Int, y_ = (List.replicate ((l0.length : Int) : Int).toNat 0) := ⟨_, rfl⟩; (replace H : (laws_toIntS.l0 k l0 y101 0) = some r := zzY); have Ny101 := Aside0.mk hy_; clear hy_; have H' := Aside0.mk H; clear H; go_enter Try.func10, Try.ntmps10; (go_wp2_with (first | ((with_reducible refine gate_dst (N := 7) rfl ?_); refine Kd.R_make (Kd.int .i64) _ 3 rfl (N := 7) rfl 25 _ _ rfl (l0.length : Int) rfl rfl Try.underlying25 (.int .i64 0) 8 info3 rfl (by decide) (by omega) 0 (ok := fun _ => True) (okp := fun _ => True) rfl (fun _ hk => hk) trivial (of_decide_eq_true zz4) (Nat.le_trans (Nat.mul_le_mul_right _ (of_decide_eq_true zz4 : (l0.length : Int).toNat ≤ 35184372088832)) (by omega)) (Below.refl _ _) (Nat.le_refl _) ?_; intro v102 w4 ho5 hb hg_ hnew_; clear hg_ hnew_; (first | rw [← Ny101.out] at ho5 | (simp only [Int.reduceToNat] at ho5; rw [← Ny101.out] at ho5)); have n_ := zA2 (Kd.R_lower ho5 (below_size zz2)) (below_step zz2 hb); clear HB; obtain ⟨HO103, HB⟩ := n_; clear hb ho5))); (go_loopg [4] k (fun kq v4 w' => ∃ (x3_1 : List Int) (x4_1 : Int), v4 = .int .i64 x4_1 ∧ Aside0 (laws_toIntS.l0 kq l0 x3_1 x4_1 = some r) ∧ Aside0 (kq ≤ k) ∧ Aside0 (Kd.R (Kd.int .i64) 3 w' w.heap.size (fun _ => True) v102 x3_1) ∧ Aside0 (Below w.heap.size w w'))); case atStart => exact ⟨(y101), (0), zz7, H', ⟨Nat.le_refl _⟩, ⟨by (with_reducible repeat (first | apply Kd.R_alloc | apply Kd.R_drewN | apply Kd.R_drew)); exact HO103.out⟩, ⟨zz2⟩⟩
 case round =>
  clear H'; (try clear c1); (try clear c2); (try clear c2b0); (try clear c2b1); (try clear p2); (try clear c3); (try clear c3b0); (try clear c3b1); obtain ⟨x3_1, x4_1, rfl, HA, HK1, HO_3, HB⟩ := hrel
  cases gk with
  | zero => exact absurd HA.out (by simp [laws_toIntS.l0])
  | succ k1 =>
   have H := HA.out; clear HA; simp only [laws_toIntS.l0] at H; by_cases c6 : x4_1 < (l0.length : Int); rotate_left
   ·rw [if_neg c6] at H; have c6b0 := decide_eq_false c6; clear c6; obtain rfl := Option.some.inj H; go_wp2; go_ret; exact ⟨_, zz6, zz17, zz2⟩
   rw [if_pos c6] at H; have c6b0 := decide_eq_true c6; clear c6; by_cases c7 : 0 ≤ x4_1; rotate_left
   ·rw [if_neg c7] at H; exact absurd H (by simp)
   rw [if_pos c7] at H; have c7b0 := decide_eq_true c7; clear c7; by_cases c8 : x4_1 < (x3_1.length : Int); rotate_left
   ·rw [if_neg c8] at H; exact absurd H (by simp)
   rw [if_pos c8] at H; have c8b0 := decide_eq_true c8; clear c8; obtain ⟨y105, hy_⟩ : ∃ y_ : List Int, y_ = (x3_1.set (x4_1 : Int).toNat (rd l0 x4_1)) := ⟨_, rfl⟩; (replace H : (laws_toIntS.l0 k1 l0 y105 (wrap64 (x4_1 + 1))) = some r := zzY); have Ny105 := Aside0.mk hy_; clear hy_; have H' := Aside0.mk H; clear H; have p104 : 0 ≤ (x4_1 : Int) := of_decide_eq_true zz4; have q104 : x4_1 < (l0.length : Int) := of_decide_eq_true zz4; obtain ⟨ad104, e104, hx104_0⟩ := Kd.at_int HR0.out x4_1 p104 q104; cases e104; replace hx104_0 := (HB.out.cell (World.block_lt_of_cell? w _ hx104_0)).trans hx104_0; replace p104 := eq_true p104; replace q104 := eq_true q104; have p9 : 0 ≤ (x4_1 : Int) := of_decide_eq_true zz4; have q9 : (x4_1 : Int) < ((x3_1.length : Int) : Int) := of_decide_eq_true zz4; obtain ⟨go9, co9, eo9, gb9, gl9, cl9, HG9⟩ := Kd.R_form HO_3.out (by omega); (first | cases eo9 | (injection eo9 with ea_ en_ ec_; (first | subst ea_ | (injection ea_ with ea_; subst ea_)); subst ec_; clear en_)); have GB9 := Aside0.mk gb9; have GG9 := Aside0.mk HG9; clear gb9 gl9 HG9; obtain ⟨hx9_0, hf9_0⟩ := Kd.R_celln 0 HO_3.out (x4_1 : Int) p9 q9; replace p9 := eq_true p9; replace q9 := eq_true q9; have HP10 := Kd.R_putg HO_3.out (x4_1 : Int) (rd l0 x4_1); (go_wp2_with (first | ((with_reducible refine gate_store (t := 3) (p := 20) rfl ?_); refine store_event (t := 3) (p := 20) (v := ?vo_w11) (w1 := (wr.setCell ⟨go9, (x4_1 : Int).toNat, none⟩ (.int .i64 (rd l0 x4_1)))) ?hg ?ho ?hn ?hr ?_; (case ho => rfl); (case hg => rfl); (case hn => rfl); (case hr => exact zz9); intro w11 hw; have hg : wr.grownBy w11 (some go9) := (by rw [hw]; exact HP10.2); have hp_ : Kd.R (Kd.int .i64) 3 w11 w.heap.size (fun _ => True) (.slice (some ⟨go9, 0, none⟩) x3_1.length co9) y105 := (by rw [hw, Ny105.out]; exact HP10.1); clear HP10; have n_ := zA2 hp_ (by rw [hw]; exact below_set (HB.out) GB9.out : Below w.heap.size w w11); clear HO_3 HB; obtain ⟨HO_3, HB⟩ := n_; clear hg hw hp_))); go_roundg k1; (case measure => have := HK1.out; omega); case rel => exact ⟨(y105), (wrap64 (x4_1 + 1)), zz7, H', ⟨zz39⟩, ⟨zz17⟩, ⟨zz2⟩⟩
def impl_within.f (a0 : Int) (a1 : Int) (a2 : Int) : Option (Bool) := if a0 ≥ a1 then (some (decide (a0 ≤ a2))) else (some false)
set_option maxHeartbeats 8000000 in
set_option maxRecDepth 100000 in
theorem impl_within.calls (a0 : Int) (a1 : Int) (a2 : Int) (r : Bool) (w : World) (h : impl_within.f a0 a1 a2 = some r) :
  Calls Try.prog 34 #[.int .i64 a0, .int .i64 a1, .int .i64 a2] w fun e w' => e = .returned (.bool r) ∧ Drawn0 w w' := by
 have H : (if a0 ≥ a1 then (some (decide (a0 ≤ a2))) else (some false)) = some r := h; clear h; by_cases c4 : a0 ≥ a1
 ·rw [if_pos c4] at H; have c4b0 : decide (a1 ≤ a0) = true := decide_eq_true c4; clear c4; obtain rfl := Option.some.inj H; go_enter Try.func34, Try.ntmps34; go_wp2; go_ret; exact ⟨zz7, by repeat (first | exact Drawn0.refl _ | apply Drawn0.step)⟩
 rw [if_neg c4] at H; have c4b0 : decide (a1 ≤ a0) = false := decide_eq_false c4; clear c4; obtain rfl := Option.some.inj H; go_enter Try.func34, Try.ntmps34; go_wp2; go_ret; exact ⟨zz7, by repeat (first | exact Drawn0.refl _ | apply Drawn0.step)⟩
mutual
def impl_connected.l0 : Nat → Int → List (S74) → Int → Int → Int → Option (Bool)
 | 0, _, _, _, _, _ => none
 | k + 1, x0, x1, x5, x8, x9 => if x9 < x8 then (impl_connected.l1 k x0 x1 x5 x8 x9 x1 (x1.length : Int) 0) else (if 0 ≤ x0 then (some (x5 == (wrap64 ((shl .i64 1 x0) - 1)))) else (none))
def impl_connected.l1 : Nat → Int → List (S74) → Int → Int → Int → List (S74) → Int → Int → Option (Bool)
 | 0, _, _, _, _, _, _, _, _ => none
 | k + 1, x0, x1, x5, x8, x9, x11, x12, x13 => if x13 < x12 then (if 0 ≤ x13 then (if x13 < (x11.length : Int) then (if 0 ≤ ((rd_T74 x11 x13).f0) then (if (Go.bits .and .i64 (shr .i64 x5 ((rd_T74 x11 x13).f0)) 1) = 1 then (if 0 ≤ ((rd_T74 x11 x13).f1) then (impl_connected.l1 k x0 x1 (Go.bits .or .i64 x5 (Go.bits .or .i64 (shl .i64 1 ((rd_T74 x11 x13).f0)) (shl .i64 1 ((rd_T74 x11 x13).f1)))) x8 x9 x11 x12 (wrap64 (x13 + 1))) else (none)) else (if 0 ≤ ((rd_T74 x11 x13).f1) then (if (Go.bits .and .i64 (shr .i64 x5 ((rd_T74 x11 x13).f1)) 1) = 1 then (impl_connected.l1 k x0 x1 (Go.bits .or .i64 x5 (Go.bits .or .i64 (shl .i64 1 ((rd_T74 x11 x13).f0)) (shl .i64 1 ((rd_T74 x11 x13).f1)))) x8 x9 x11 x12 (wrap64 (x13 + 1))) else (impl_connected.l1 k x0 x1 x5 x8 x9 x11 x12 (wrap64 (x13 + 1)))) else (none))) else (none)) else (none)) else (none)) else (impl_connected.l0 k x0 x1 x5 x8 (wrap64 (x9 + 1)))
end
def impl_connected.f (k : Nat) (a0 : Int) (l1 : List (S74)) : Option (Bool) := impl_connected.l0 k a0 l1 1 a0 0
theorem impl_connected.mono_l : ∀ k, (∀ y0 y1 y2 y3 y4, LeO (impl_connected.l0 k y0 y1 y2 y3 y4) (impl_connected.l0 (k + 1) y0 y1 y2 y3 y4)) ∧ (∀ y0 y1 y2 y3 y4 y5 y6 y7, LeO (impl_connected.l1 k y0 y1 y2 y3 y4 y5 y6 y7) (impl_connected.l1 (k + 1) y0 y1 y2 y3 y4 y5 y6 y7))
 | 0 => ⟨fun _ _ _ _ _ r h => by simp [impl_connected.l0] at h, fun _ _ _ _ _ _ _ _ r h => by simp [impl_connected.l1] at h⟩
 | k + 1 => by
  obtain ⟨ih0, ih1⟩ := impl_connected.mono_l k
  refine ⟨?_, ?_⟩
  ·intro y0 y1 y2 y3 y4
   unfold impl_connected.l0
   exact zm0
  ·intro y0 y1 y2 y3 y4 y5 y6 y7
   unfold impl_connected.l1
   exact zm0
theorem impl_connected.mono : ∀ a0 a1 k, LeO (impl_connected.f k a0 a1) (impl_connected.f (k + 1) a0 a1) := by
 intro a0 a1 k; obtain ⟨ih0, ih1⟩ := impl_connected.mono_l k; unfold impl_connected.f; exact zm0
set_option maxHeartbeats 8000000 in
set_option maxRecDepth 100000 in
theorem impl_connected.calls (k : Nat) (a0 : Int) (A1 : Option Addr) (c1 : Nat) (l1 : List (S74)) (r : Bool) (w : World) (hr1 : Kd.C k74 w A1 l1.length l1) (hc1 : l1.length ≤ c1) (h : impl_connected.f k a0 l1 = some r) :
  Calls Try.prog 60 #[.int .i64 a0, .slice A1 l1.length c1] w fun e w' => e = .returned (.bool r) ∧ Below w.heap.size w w' := by
 have hu74 := Try.underlying74; have HR1 := Aside0.mk hr1; have HC1 := Aside0.mk hc1; clear hr1 hc1; have HB := Aside0.mk (Below.refl w.heap.size w); have H : (impl_connected.l0 k a0 l1 1 a0 0) = some r := h; clear h; have H' := Aside0.mk H; clear H; go_enter Try.func60, Try.ntmps60; go_wp2; (repeat (go_quiet (fail); try go_wp2)); (go_loopg [5, 9] k (fun kq v5 v9 w' => ∃ (x5_1 : Int) (x9_1 : Int), v5 = .int .i64 x5_1 ∧ v9 = .int .i64 x9_1 ∧ Aside0 (impl_connected.l0 kq a0 l1 x5_1 a0 x9_1 = some r) ∧ Aside0 (kq ≤ k) ∧ Aside0 (Below w.heap.size w w'))); case atStart => exact ⟨(1), (0), zz7, zz7, H', ⟨Nat.le_refl _⟩, ⟨zz2⟩⟩
 case round =>
  clear H'; (try clear c1); (try clear p2); obtain ⟨x5_1, x9_1, rfl, rfl, HA, HK1, HB⟩ := hrel
  cases gk with
  | zero => exact absurd HA.out (by simp [impl_connected.l0])
  | succ k1 =>
   have H := HA.out; clear HA; simp only [impl_connected.l0] at H; by_cases c3 : x9_1 < a0; rotate_left
   ·rw [if_neg c3] at H; have c3b0 := decide_eq_false c3; clear c3; by_cases c27 : 0 ≤ a0; rotate_left
    ·rw [if_neg c27] at H; exact absurd H (by simp)
    rw [if_pos c27] at H; have c27b0 := eq_true c27; have c27b1 : decide (0 ≤ a0) = true := decide_eq_true c27; clear c27; obtain ⟨ji28, hji28⟩ : ∃ j_ : Int, (shl .i64 1 a0) = j_ := ⟨_, rfl⟩; (replace H : (some (x5_1 == (wrap64 ((ji28) - 1)))) = some r := by first | (rw [hji28] at H; exact H) | (simp only [hji28] at H ⊢; exact H)); have hji28_ : (IntKind.i64.wrap (1 * 2 ^ min a0.toNat 64)) = ji28 := hji28; have hji28z : a0 ≤ 64 → (IntKind.i64.wrap (1 * 2 ^ a0.toNat)) = ji28 := shl_small hji28; (have hji28u : (IntKind.i64.wrap (2 ^ min a0.toNat 64)) = ji28 := by have h_ := hji28_; rw [Int.one_mul] at h_; exact h_); (have hji28v : a0 ≤ 64 → (IntKind.i64.wrap (2 ^ a0.toNat)) = ji28 := fun hle_ => by have h_ := hji28z hle_; rw [Int.one_mul] at h_; exact h_); have hji28y : (wrap64 (1 * 2 ^ min a0.toNat 64)) = ji28 := (i64_w _).symm.trans hji28_; (have hji28x : a0 ≤ 64 → (wrap64 (1 * 2 ^ a0.toNat)) = ji28 := fun h_ => (i64_w _).symm.trans (hji28z h_)); obtain rfl := Option.some.inj H; go_wp2; (repeat (go_quiet (fail); try go_wp2)); go_ret; exact ⟨by first | rfl | (simp [errW_none, errW_some] <;> rfl) | (simp only [← hji28]; first | rfl | (simp [errW_none, errW_some] <;> rfl)) | (simp [*, errW_none, errW_some] <;> rfl), zz2⟩
   rw [if_pos c3] at H; have c3b0 := decide_eq_true c3; clear c3; have H' := Aside0.mk H; clear H; go_wp2; (repeat (go_quiet (fail); try go_wp2)); (go_loopg [5, 13] k1 (fun kq v5 v13 w' => ∃ (x5_2 : Int) (x13_2 : Int), v5 = .int .i64 x5_2 ∧ v13 = .int .i64 x13_2 ∧ Aside0 (impl_connected.l1 kq a0 l1 x5_2 a0 x9_1 l1 (l1.length : Int) x13_2 = some r) ∧ Aside0 (kq ≤ k1) ∧ Aside0 (Below w.heap.size w w'))); case atStart => exact ⟨(x5_1), (0), zz7, zz7, H', ⟨Nat.le_refl _⟩, ⟨zz2⟩⟩
   case round =>
    clear H'; (try clear c1); (try clear p2); (try clear c3); (try clear c3b0); (try clear p2); obtain ⟨x5_2, x13_2, rfl, rfl, HA, HK2, HB⟩ := hrel
    cases gk with
    | zero => exact absurd HA.out (by simp [impl_connected.l1])
    | succ k2 =>
     have H := HA.out; clear HA; simp only [impl_connected.l1] at H; by_cases c4 : x13_2 < (l1.length : Int); rotate_left
     ·rw [if_neg c4] at H; have c4b0 := decide_eq_false c4; clear c4; have H' := Aside0.mk H; clear H; go_wp2; (repeat (go_quiet (fail); try go_wp2)); go_roundg k2; (case measure => have := HK1.out; have := HK2.out; omega); case rel => exact ⟨(x5_2), (wrap64 (x9_1 + 1)), zz7, zz7, H', ⟨by have := HK1.out; have := HK2.out; omega⟩, ⟨zz2⟩⟩
     rw [if_pos c4] at H; have c4b0 := decide_eq_true c4; clear c4; by_cases c5 : 0 ≤ x13_2; rotate_left
     ·rw [if_neg c5] at H; exact absurd H (by simp)
     rw [if_pos c5] at H; have c5b0 := decide_eq_true c5; clear c5; by_cases c6 : x13_2 < (l1.length : Int); rotate_left
     ·rw [if_neg c6] at H; exact absurd H (by simp)
     rw [if_pos c6] at H; have c6b0 := decide_eq_true c6; clear c6; by_cases c7 : 0 ≤ ((rd_T74 l1 x13_2).f0); rotate_left
     ·rw [if_neg c7] at H; exact absurd H (by simp)
     rw [if_pos c7] at H; have c7b0 := eq_true c7; have c7b1 : decide (0 ≤ ((rd_T74 l1 x13_2).f0)) = true := decide_eq_true c7; clear c7; obtain ⟨ji8, hji8⟩ : ∃ j_ : Int, (shr .i64 x5_2 ((rd_T74 l1 x13_2).f0)) = j_ := ⟨_, rfl⟩; (replace H : (if (Go.bits .and .i64 (ji8) 1) = 1 then (if 0 ≤ ((rd_T74 l1 x13_2).f1) then (impl_connected.l1 k2 a0 l1 (Go.bits .or .i64 x5_2 (Go.bits .or .i64 (shl .i64 1 ((rd_T74 l1 x13_2).f0)) (shl .i64 1 ((rd_T74 l1 x13_2).f1)))) a0 x9_1 l1 (l1.length : Int) (wrap64 (x13_2 + 1))) else (none)) else (if 0 ≤ ((rd_T74 l1 x13_2).f1) then (if (Go.bits .and .i64 (shr .i64 x5_2 ((rd_T74 l1 x13_2).f1)) 1) = 1 then (impl_connected.l1 k2 a0 l1 (Go.bits .or .i64 x5_2 (Go.bits .or .i64 (shl .i64 1 ((rd_T74 l1 x13_2).f0)) (shl .i64 1 ((rd_T74 l1 x13_2).f1)))) a0 x9_1 l1 (l1.length : Int) (wrap64 (x13_2 + 1))) else (impl_connected.l1 k2 a0 l1 x5_2 a0 x9_1 l1 (l1.length : Int) (wrap64 (x13_2 + 1)))) else (none))) = some r := by first | (rw [hji8] at H; exact H) | (simp only [hji8] at H ⊢; exact H)); have hji8_ : (x5_2 / 2 ^ min ((rd_T74 l1 x13_2).f0).toNat 64) = ji8 := hji8; have hji8z : ((rd_T74 l1 x13_2).f0) ≤ 64 → (x5_2 / 2 ^ ((rd_T74 l1 x13_2).f0).toNat) = ji8 := shr_small hji8; by_cases c9 : (Go.bits .and .i64 (ji8) 1) = 1
     ·rw [if_pos c9] at H; have c9b0 : ((Go.bits .and .i64 (ji8) 1) == 1) = true := beq_iff_eq.mpr c9; have c9b1 : ((Go.bits .and .i64 (ji8) 1) != 1) = false := bne_eq_false_iff_eq.mpr c9; clear c9; have c10b0 := eq_true (of_decide_eq_true zz4 : 0 ≤ ((rd_T74 l1 x13_2).f0)); obtain ⟨ji11, hji11⟩ : ∃ j_ : Int, (shl .i64 1 ((rd_T74 l1 x13_2).f0)) = j_ := ⟨_, rfl⟩; (replace H : (if 0 ≤ ((rd_T74 l1 x13_2).f1) then (impl_connected.l1 k2 a0 l1 (Go.bits .or .i64 x5_2 (Go.bits .or .i64 (ji11) (shl .i64 1 ((rd_T74 l1 x13_2).f1)))) a0 x9_1 l1 (l1.length : Int) (wrap64 (x13_2 + 1))) else (none)) = some r := by first | (rw [hji11] at H; exact H) | (simp only [hji11] at H ⊢; exact H)); have hji11_ : (IntKind.i64.wrap (1 * 2 ^ min ((rd_T74 l1 x13_2).f0).toNat 64)) = ji11 := hji11; have hji11z : ((rd_T74 l1 x13_2).f0) ≤ 64 → (IntKind.i64.wrap (1 * 2 ^ ((rd_T74 l1 x13_2).f0).toNat)) = ji11 := shl_small hji11; (have hji11u : (IntKind.i64.wrap (2 ^ min ((rd_T74 l1 x13_2).f0).toNat 64)) = ji11 := by have h_ := hji11_; rw [Int.one_mul] at h_; exact h_); (have hji11v : ((rd_T74 l1 x13_2).f0) ≤ 64 → (IntKind.i64.wrap (2 ^ ((rd_T74 l1 x13_2).f0).toNat)) = ji11 := fun hle_ => by have h_ := hji11z hle_; rw [Int.one_mul] at h_; exact h_); have hji11y : (wrap64 (1 * 2 ^ min ((rd_T74 l1 x13_2).f0).toNat 64)) = ji11 := (i64_w _).symm.trans hji11_; (have hji11x : ((rd_T74 l1 x13_2).f0) ≤ 64 → (wrap64 (1 * 2 ^ ((rd_T74 l1 x13_2).f0).toNat)) = ji11 := fun h_ => (i64_w _).symm.trans (hji11z h_)); by_cases c12 : 0 ≤ ((rd_T74 l1 x13_2).f1); rotate_left
      ·rw [if_neg c12] at H; exact absurd H (by simp)
      rw [if_pos c12] at H; have c12b0 := eq_true c12; have c12b1 : decide (0 ≤ ((rd_T74 l1 x13_2).f1)) = true := decide_eq_true c12; clear c12; obtain ⟨ji13, hji13⟩ : ∃ j_ : Int, (shl .i64 1 ((rd_T74 l1 x13_2).f1)) = j_ := ⟨_, rfl⟩; (replace H : (impl_connected.l1 k2 a0 l1 (Go.bits .or .i64 x5_2 (Go.bits .or .i64 (ji11) (ji13))) a0 x9_1 l1 (l1.length : Int) (wrap64 (x13_2 + 1))) = some r := by first | (rw [hji13] at H; exact H) | (simp only [hji13] at H ⊢; exact H)); have hji13_ : (IntKind.i64.wrap (1 * 2 ^ min ((rd_T74 l1 x13_2).f1).toNat 64)) = ji13 := hji13; have hji13z : ((rd_T74 l1 x13_2).f1) ≤ 64 → (IntKind.i64.wrap (1 * 2 ^ ((rd_T74 l1 x13_2).f1).toNat)) = ji13 := shl_small hji13; (have hji13u : (IntKind.i64.wrap (2 ^ min ((rd_T74 l1 x13_2).f1).toNat 64)) = ji13 := by have h_ := hji13_; rw [Int.one_mul] at h_; exact h_); (have hji13v : ((rd_T74 l1 x13_2).f1) ≤ 64 → (IntKind.i64.wrap (2 ^ ((rd_T74 l1 x13_2).f1).toNat)) = ji13 := fun hle_ => by have h_ := hji13z hle_; rw [Int.one_mul] at h_; exact h_); have hji13y : (wrap64 (1 * 2 ^ min ((rd_T74 l1 x13_2).f1).toNat 64)) = ji13 := (i64_w _).symm.trans hji13_; (have hji13x : ((rd_T74 l1 x13_2).f1) ≤ 64 → (wrap64 (1 * 2 ^ ((rd_T74 l1 x13_2).f1).toNat)) = ji13 := fun h_ => (i64_w _).symm.trans (hji13z h_)); have H' := Aside0.mk H; clear H; have p101 : 0 ≤ (x13_2 : Int) := of_decide_eq_true zz4; have q101 : x13_2 < (l1.length : Int) := of_decide_eq_true zz4; obtain ⟨ad101, e101, hx101_0, hx101_1⟩ := at_T74 HR1.out x13_2 p101 q101; cases e101; replace hx101_0 := (HB.out.cell (World.block_lt_of_cell? w _ hx101_0)).trans hx101_0; replace hx101_1 := (HB.out.cell (World.block_lt_of_cell? w _ hx101_1)).trans hx101_1; replace p101 := eq_true p101; replace q101 := eq_true q101; (go_wp2_with (first | ((with_reducible refine gate_dst (N := 7) rfl ?_); refine box_event ?hg (N := 7) ?hd (cs := #[.int .i64 0, .int .i64 0]) (t := 74) ?hr ?_; (case hd => rfl); (case hg => rfl); (case hr => exact zz9); intro gb102 hg w14 hbox hb; have n_ := zA4 (below_step zz2 hb) hbox (zz12 : w.heap.size ≤ gb102) (zz12 : w.heap.size ≤ gb102); clear HB; obtain ⟨HB, BK102, GW102, GE102⟩ := n_; clear hb hbox hg; have hcz15_0 := zC20 BK102; have hcz15_1 := zC21 BK102; have hfz15_0 := blk_frozen BK102.out 0; have hfz15_1 := blk_frozen BK102.out 1))); (repeat (go_quiet (first | ((with_reducible refine gate_dst (N := 7) rfl ?_); refine box_event ?hg (N := 7) ?hd (cs := #[.int .i64 0, .int .i64 0]) (t := 74) ?hr ?_; (case hd => rfl); (case hg => rfl); (case hr => exact zz9); intro gb102 hg w14 hbox hb; have n_ := zA4 (below_step zz2 hb) hbox (zz12 : w.heap.size ≤ gb102) (zz12 : w.heap.size ≤ gb102); clear HB; obtain ⟨HB, BK102, GW102, GE102⟩ := n_; clear hb hbox hg; have hcz15_0 := zC20 BK102; have hcz15_1 := zC21 BK102; have hfz15_0 := blk_frozen BK102.out 0; have hfz15_1 := blk_frozen BK102.out 1)); try go_wp2_with (first | ((with_reducible refine gate_dst (N := 7) rfl ?_); refine box_event ?hg (N := 7) ?hd (cs := #[.int .i64 0, .int .i64 0]) (t := 74) ?hr ?_; (case hd => rfl); (case hg => rfl); (case hr => exact zz9); intro gb102 hg w14 hbox hb; have n_ := zA4 (below_step zz2 hb) hbox (zz12 : w.heap.size ≤ gb102) (zz12 : w.heap.size ≤ gb102); clear HB; obtain ⟨HB, BK102, GW102, GE102⟩ := n_; clear hb hbox hg; have hcz15_0 := zC20 BK102; have hcz15_1 := zC21 BK102; have hfz15_0 := blk_frozen BK102.out 0; have hfz15_1 := blk_frozen BK102.out 1)))); go_roundg k2; (case measure => have := HK1.out; have := HK2.out; omega); case rel => exact ⟨(Go.bits .or .i64 x5_2 (Go.bits .or .i64 (ji11) (ji13))), (wrap64 (x13_2 + 1)), (by first | rfl | (simp; done) | (simp only [← hji11, ← hji13] <;> (first | rfl | simp)) | (simp [*]; done)), zz7, H', ⟨by have := HK1.out; have := HK2.out; omega⟩, ⟨zz50⟩⟩
     rw [if_neg c9] at H; have c9b0 : ((Go.bits .and .i64 (ji8) 1) == 1) = false := beq_eq_false_iff_ne.mpr c9; have c9b1 : ((Go.bits .and .i64 (ji8) 1) != 1) = true := bne_iff_ne.mpr c9; by_cases c16 : 0 ≤ ((rd_T74 l1 x13_2).f1); rotate_left
     ·rw [if_neg c16] at H; exact absurd H (by simp)
     rw [if_pos c16] at H; have c16b0 := eq_true c16; have c16b1 : decide (0 ≤ ((rd_T74 l1 x13_2).f1)) = true := decide_eq_true c16; clear c16; obtain ⟨ji17, hji17⟩ : ∃ j_ : Int, (shr .i64 x5_2 ((rd_T74 l1 x13_2).f1)) = j_ := ⟨_, rfl⟩; (replace H : (if (Go.bits .and .i64 (ji17) 1) = 1 then (impl_connected.l1 k2 a0 l1 (Go.bits .or .i64 x5_2 (Go.bits .or .i64 (shl .i64 1 ((rd_T74 l1 x13_2).f0)) (shl .i64 1 ((rd_T74 l1 x13_2).f1)))) a0 x9_1 l1 (l1.length : Int) (wrap64 (x13_2 + 1))) else (impl_connected.l1 k2 a0 l1 x5_2 a0 x9_1 l1 (l1.length : Int) (wrap64 (x13_2 + 1)))) = some r := by first | (rw [hji17] at H; exact H) | (simp only [hji17] at H ⊢; exact H)); have hji17_ : (x5_2 / 2 ^ min ((rd_T74 l1 x13_2).f1).toNat 64) = ji17 := hji17; have hji17z : ((rd_T74 l1 x13_2).f1) ≤ 64 → (x5_2 / 2 ^ ((rd_T74 l1 x13_2).f1).toNat) = ji17 := shr_small hji17; by_cases c18 : (Go.bits .and .i64 (ji17) 1) = 1; rotate_left
     ·rw [if_neg c18] at H; have c18b0 : ((Go.bits .and .i64 (ji17) 1) == 1) = false := beq_eq_false_iff_ne.mpr c18; have c18b1 : ((Go.bits .and .i64 (ji17) 1) != 1) = true := bne_iff_ne.mpr c18; have H' := Aside0.mk H; clear H; have p101 : 0 ≤ (x13_2 : Int) := of_decide_eq_true zz4; have q101 : x13_2 < (l1.length : Int) := of_decide_eq_true zz4; obtain ⟨ad101, e101, hx101_0, hx101_1⟩ := at_T74 HR1.out x13_2 p101 q101; cases e101; replace hx101_0 := (HB.out.cell (World.block_lt_of_cell? w _ hx101_0)).trans hx101_0; replace hx101_1 := (HB.out.cell (World.block_lt_of_cell? w _ hx101_1)).trans hx101_1; replace p101 := eq_true p101; replace q101 := eq_true q101; (go_wp2_with (first | ((with_reducible refine gate_dst (N := 7) rfl ?_); refine box_event ?hg (N := 7) ?hd (cs := #[.int .i64 0, .int .i64 0]) (t := 74) ?hr ?_; (case hd => rfl); (case hg => rfl); (case hr => exact zz9); intro gb102 hg w25 hbox hb; have n_ := zA4 (below_step zz2 hb) hbox (zz12 : w.heap.size ≤ gb102) (zz12 : w.heap.size ≤ gb102); clear HB; obtain ⟨HB, BK102, GW102, GE102⟩ := n_; clear hb hbox hg; have hcz26_0 := zC20 BK102; have hcz26_1 := zC21 BK102; have hfz26_0 := blk_frozen BK102.out 0; have hfz26_1 := blk_frozen BK102.out 1))); (repeat (go_quiet (first | ((with_reducible refine gate_dst (N := 7) rfl ?_); refine box_event ?hg (N := 7) ?hd (cs := #[.int .i64 0, .int .i64 0]) (t := 74) ?hr ?_; (case hd => rfl); (case hg => rfl); (case hr => exact zz9); intro gb102 hg w25 hbox hb; have n_ := zA4 (below_step zz2 hb) hbox (zz12 : w.heap.size ≤ gb102) (zz12 : w.heap.size ≤ gb102); clear HB; obtain ⟨HB, BK102, GW102, GE102⟩ := n_; clear hb hbox hg; have hcz26_0 := zC20 BK102; have hcz26_1 := zC21 BK102; have hfz26_0 := blk_frozen BK102.out 0; have hfz26_1 := blk_frozen BK102.out 1)); try go_wp2_with (first | ((with_reducible refine gate_dst (N := 7) rfl ?_); refine box_event ?hg (N := 7) ?hd (cs := #[.int .i64 0, .int .i64 0]) (t := 74) ?hr ?_; (case hd => rfl); (case hg => rfl); (case hr => exact zz9); intro gb102 hg w25 hbox hb; have n_ := zA4 (below_step zz2 hb) hbox (zz12 : w.heap.size ≤ gb102) (zz12 : w.heap.size ≤ gb102); clear HB; obtain ⟨HB, BK102, GW102, GE102⟩ := n_; clear hb hbox hg; have hcz26_0 := zC20 BK102; have hcz26_1 := zC21 BK102; have hfz26_0 := blk_frozen BK102.out 0; have hfz26_1 := blk_frozen BK102.out 1)))); go_roundg k2; (case measure => have := HK1.out; have := HK2.out; omega); case rel => exact ⟨(x5_2), (wrap64 (x13_2 + 1)), zz7, zz7, H', ⟨by have := HK1.out; have := HK2.out; omega⟩, ⟨zz50⟩⟩
     rw [if_pos c18] at H; have c18b0 : ((Go.bits .and .i64 (ji17) 1) == 1) = true := beq_iff_eq.mpr c18; have c18b1 : ((Go.bits .and .i64 (ji17) 1) != 1) = false := bne_eq_false_iff_eq.mpr c18; clear c18; have c19b0 := eq_true (of_decide_eq_true zz4 : 0 ≤ ((rd_T74 l1 x13_2).f0)); obtain ⟨ji20, hji20⟩ : ∃ j_ : Int, (shl .i64 1 ((rd_T74 l1 x13_2).f0)) = j_ := ⟨_, rfl⟩; (replace H : (impl_connected.l1 k2 a0 l1 (Go.bits .or .i64 x5_2 (Go.bits .or .i64 (ji20) (shl .i64 1 ((rd_T74 l1 x13_2).f1)))) a0 x9_1 l1 (l1.length : Int) (wrap64 (x13_2 + 1))) = some r := by first | (rw [hji20] at H; exact H) | (simp only [hji20] at H ⊢; exact H)); have hji20_ : (IntKind.i64.wrap (1 * 2 ^ min ((rd_T74 l1 x13_2).f0).toNat 64)) = ji20 := hji20; have hji20z : ((rd_T74 l1 x13_2).f0) ≤ 64 → (IntKind.i64.wrap (1 * 2 ^ ((rd_T74 l1 x13_2).f0).toNat)) = ji20 := shl_small hji20; (have hji20u : (IntKind.i64.wrap (2 ^ min ((rd_T74 l1 x13_2).f0).toNat 64)) = ji20 := by have h_ := hji20_; rw [Int.one_mul] at h_; exact h_); (have hji20v : ((rd_T74 l1 x13_2).f0) ≤ 64 → (IntKind.i64.wrap (2 ^ ((rd_T74 l1 x13_2).f0).toNat)) = ji20 := fun hle_ => by have h_ := hji20z hle_; rw [Int.one_mul] at h_; exact h_); have hji20y : (wrap64 (1 * 2 ^ min ((rd_T74 l1 x13_2).f0).toNat 64)) = ji20 := (i64_w _).symm.trans hji20_; (have hji20x : ((rd_T74 l1 x13_2).f0) ≤ 64 → (wrap64 (1 * 2 ^ ((rd_T74 l1 x13_2).f0).toNat)) = ji20 := fun h_ => (i64_w _).symm.trans (hji20z h_)); have c21b0 := eq_true (of_decide_eq_true zz4 : 0 ≤ ((rd_T74 l1 x13_2).f1)); obtain ⟨ji22, hji22⟩ : ∃ j_ : Int, (shl .i64 1 ((rd_T74 l1 x13_2).f1)) = j_ := ⟨_, rfl⟩; (replace H : (impl_connected.l1 k2 a0 l1 (Go.bits .or .i64 x5_2 (Go.bits .or .i64 (ji20) (ji22))) a0 x9_1 l1 (l1.length : Int) (wrap64 (x13_2 + 1))) = some r := by first | (rw [hji22] at H; exact H) | (simp only [hji22] at H ⊢; exact H)); have hji22_ : (IntKind.i64.wrap (1 * 2 ^ min ((rd_T74 l1 x13_2).f1).toNat 64)) = ji22 := hji22; have hji22z : ((rd_T74 l1 x13_2).f1) ≤ 64 → (IntKind.i64.wrap (1 * 2 ^ ((rd_T74 l1 x13_2).f1).toNat)) = ji22 := shl_small hji22; (have hji22u : (IntKind.i64.wrap (2 ^ min ((rd_T74 l1 x13_2).f1).toNat 64)) = ji22 := by have h_ := hji22_; rw [Int.one_mul] at h_; exact h_); (have hji22v : ((rd_T74 l1 x13_2).f1) ≤ 64 → (IntKind.i64.wrap (2 ^ ((rd_T74 l1 x13_2).f1).toNat)) = ji22 := fun hle_ => by have h_ := hji22z hle_; rw [Int.one_mul] at h_; exact h_); have hji22y : (wrap64 (1 * 2 ^ min ((rd_T74 l1 x13_2).f1).toNat 64)) = ji22 := (i64_w _).symm.trans hji22_; (have hji22x : ((rd_T74 l1 x13_2).f1) ≤ 64 → (wrap64 (1 * 2 ^ ((rd_T74 l1 x13_2).f1).toNat)) = ji22 := fun h_ => (i64_w _).symm.trans (hji22z h_)); have H' := Aside0.mk H; clear H; have p101 : 0 ≤ (x13_2 : Int) := of_decide_eq_true zz4; have q101 : x13_2 < (l1.length : Int) := of_decide_eq_true zz4; obtain ⟨ad101, e101, hx101_0, hx101_1⟩ := at_T74 HR1.out x13_2 p101 q101; cases e101; replace hx101_0 := (HB.out.cell (World.block_lt_of_cell? w _ hx101_0)).trans hx101_0; replace hx101_1 := (HB.out.cell (World.block_lt_of_cell? w _ hx101_1)).trans hx101_1; replace p101 := eq_true p101; replace q101 := eq_true q101; (go_wp2_with (first | ((with_reducible refine gate_dst (N := 7) rfl ?_); refine box_event ?hg (N := 7) ?hd (cs := #[.int .i64 0, .int .i64 0]) (t := 74) ?hr ?_; (case hd => rfl); (case hg => rfl); (case hr => exact zz9); intro gb102 hg w23 hbox hb; have n_ := zA4 (below_step zz2 hb) hbox (zz12 : w.heap.size ≤ gb102) (zz12 : w.heap.size ≤ gb102); clear HB; obtain ⟨HB, BK102, GW102, GE102⟩ := n_; clear hb hbox hg; have hcz24_0 := zC20 BK102; have hcz24_1 := zC21 BK102; have hfz24_0 := blk_frozen BK102.out 0; have hfz24_1 := blk_frozen BK102.out 1))); (repeat (go_quiet (first | ((with_reducible refine gate_dst (N := 7) rfl ?_); refine box_event ?hg (N := 7) ?hd (cs := #[.int .i64 0, .int .i64 0]) (t := 74) ?hr ?_; (case hd => rfl); (case hg => rfl); (case hr => exact zz9); intro gb102 hg w23 hbox hb; have n_ := zA4 (below_step zz2 hb) hbox (zz12 : w.heap.size ≤ gb102) (zz12 : w.heap.size ≤ gb102); clear HB; obtain ⟨HB, BK102, GW102, GE102⟩ := n_; clear hb hbox hg; have hcz24_0 := zC20 BK102; have hcz24_1 := zC21 BK102; have hfz24_0 := blk_frozen BK102.out 0; have hfz24_1 := blk_frozen BK102.out 1)); try go_wp2_with (first | ((with_reducible refine gate_dst (N := 7) rfl ?_); refine box_event ?hg (N := 7) ?hd (cs := #[.int .i64 0, .int .i64 0]) (t := 74) ?hr ?_; (case hd => rfl); (case hg => rfl); (case hr => exact zz9); intro gb102 hg w23 hbox hb; have n_ := zA4 (below_step zz2 hb) hbox (zz12 : w.heap.size ≤ gb102) (zz12 : w.heap.size ≤ gb102); clear HB; obtain ⟨HB, BK102, GW102, GE102⟩ := n_; clear hb hbox hg; have hcz24_0 := zC20 BK102; have hcz24_1 := zC21 BK102; have hfz24_0 := blk_frozen BK102.out 0; have hfz24_1 := blk_frozen BK102.out 1)))); go_roundg k2; (case measure => have := HK1.out; have := HK2.out; omega); case rel => exact ⟨(Go.bits .or .i64 x5_2 (Go.bits .or .i64 (ji20) (ji22))), (wrap64 (x13_2 + 1)), (by first | rfl | (simp; done) | (simp only [← hji20, ← hji22] <;> (first | rfl | simp)) | (simp [*]; done)), zz7, H', ⟨by have := HK1.out; have := HK2.out; omega⟩, ⟨zz50⟩⟩
end Go.Proofs.Yteokcodadpjepaa.P
end

section
namespace Go.Proofs.Yteokcodadpjepaa.P
open Go.RowKit Go.Proofs.YteokcodadpjepaaW.PrintWords Go.Proofs.YteokcodadpjepaaW.PrintLast Go.Proofs.YteokcodadpjepaaW.PrintMore
attribute [local go_sem] max2_int min2_int max_two min_two max_three min_three max_four min_four
set_option linter.unusedVariables false
set_option linter.unusedSimpArgs false
mutual
def impl_EdgesOk.j0 : Nat → Bool → Int → List (S74) → Option (Bool)
 | 0, _, _, _ => none
 | k + 1, x14, x102000, x102001 => if x14 = true then (some false) else (impl_EdgesOk.l0 k x102001 (x102001.length : Int) 0 x102000 x102001)
def impl_EdgesOk.l0 : Nat → List (S74) → Int → Int → Int → List (S74) → Option (Bool)
 | 0, _, _, _, _, _ => none
 | k + 1, x16, x17, x18, x102000, x102001 => if x18 < x17 then (if 0 ≤ x18 then (if x18 < (x16.length : Int) then (if ((rd_T74 x16 x18).f0) < 0 then (some false) else (if ((rd_T74 x16 x18).f0) ≥ ((rd_T74 x16 x18).f1) then (some false) else (if ((rd_T74 x16 x18).f1) ≥ x102000 then (some false) else (impl_EdgesOk.l0 k x16 x17 (wrap64 (x18 + 1)) x102000 x102001)))) else (none)) else (none)) else (some true)
end
def impl_EdgesOk.f (k : Nat) (a0_0 : Int) (l0_1 : List (S74)) : Option (Bool) := (impl_within.f a0_0 1 6).bind fun t102 => (if t102 = true then (impl_EdgesOk.j0 k (decide ((l0_1.length : Int) > 12)) a0_0 l0_1) else (impl_EdgesOk.j0 k true a0_0 l0_1))
theorem impl_EdgesOk.mono_l : ∀ k, (∀ y0 y1 y2, LeO (impl_EdgesOk.j0 k y0 y1 y2) (impl_EdgesOk.j0 (k + 1) y0 y1 y2)) ∧ (∀ y0 y1 y2 y3 y4, LeO (impl_EdgesOk.l0 k y0 y1 y2 y3 y4) (impl_EdgesOk.l0 (k + 1) y0 y1 y2 y3 y4))
 | 0 => ⟨fun _ _ _ r h => by simp [impl_EdgesOk.j0] at h, fun _ _ _ _ _ r h => by simp [impl_EdgesOk.l0] at h⟩
 | k + 1 => by
  obtain ⟨ih0, ih1⟩ := impl_EdgesOk.mono_l k
  refine ⟨?_, ?_⟩
  ·intro y0 y1 y2
   unfold impl_EdgesOk.j0
   exact zm0
  ·intro y0 y1 y2 y3 y4
   unfold impl_EdgesOk.l0
   exact zm0
theorem impl_EdgesOk.mono : ∀ a0 a1 k, LeO (impl_EdgesOk.f k a0 a1) (impl_EdgesOk.f (k + 1) a0 a1) := by
 intro a0 a1 k; obtain ⟨ih0, ih1⟩ := impl_EdgesOk.mono_l k; unfold impl_EdgesOk.f; exact zm0
set_option maxHeartbeats 8000000 in
set_option maxRecDepth 100000 in
theorem impl_EdgesOk.calls (k : Nat) (a0_0 : Int) (A0_1 : Option Addr) (c0_1 : Nat) (l0_1 : List (S74)) (r : Bool) (w : World) (hr0_1 : Kd.C k74 w A0_1 l0_1.length l0_1) (hc0_1 : l0_1.length ≤ c0_1) (h : impl_EdgesOk.f k a0_0 l0_1 = some r) :
  Calls Try.prog 88 #[.agg #[.int .i64 a0_0, .slice A0_1 l0_1.length c0_1]] w fun e w' => e = .returned (.bool r) ∧ Below w.heap.size w w' := by
 have hu31 := Try.underlying31; have hu74 := Try.underlying74; have HR0_1 := Aside0.mk hr0_1; have HC0_1 := Aside0.mk hc0_1; clear hr0_1 hc0_1; have HB := Aside0.mk (Below.refl w.heap.size w); have H : ((impl_within.f a0_0 1 6).bind fun t102 => (if t102 = true then (impl_EdgesOk.j0 k (decide ((l0_1.length : Int) > 12)) a0_0 l0_1) else (impl_EdgesOk.j0 k true a0_0 l0_1))) = some r := h; clear h; have HC2 := Aside0.mk H; clear H; go_enter Try.func88, Try.ntmps88; (go_upto_region 1 with (first | ((with_reducible refine gate_dst (N := 1) rfl ?_); (try (refine gate_guard (by rfl) ?_; dsimp only)); refine box_event ?hg (N := 1) ?hd (cs := #[.int .i64 a0_0, .slice A0_1 l0_1.length c0_1]) (t := 31) ?hr ?_; (case hd => rfl); (case hg => rfl); (case hr => exact zz9); intro gb101 hg w3 hbox hb; have n_ := zA4 (below_step zz2 hb) hbox (zz12 : w.heap.size ≤ gb101) (zz12 : w.heap.size ≤ gb101); clear HB; obtain ⟨HB, BK101, GW101, GE101⟩ := n_; clear hb hbox hg))); (try simp only [Act.put, List.setIfInBounds_toArray, List.set_cons_zero, List.set_cons_succ]); go_cut [14] (fun v14 wc => ∃ (kq : Nat) (x14_1 : Bool), v14 = .bool x14_1 ∧ Aside0 (impl_EdgesOk.j0 kq x14_1 a0_0 l0_1 = some r) ∧ Aside0 (kq ≤ k) ∧ Aside0 (wc.heap[gb101]? = some (.cells #[.int .i64 a0_0, (.slice A0_1 l0_1.length c0_1)] 31 (0, 0))) ∧ Aside0 (Below w.heap.size w wc))
 case first =>
  have H := HC2.out; clear HC2; replace H := Option.bind_eq_some_iff.mp H; obtain ⟨t102, A40, H⟩ := H; (try dsimp only at H); have A4 := Aside0.mk A40; clear A40; by_cases c5 : t102 = true
  ·subst c5; rw [if_pos rfl] at H; have H' := Aside0.mk H; clear H; have hcz6_0 := zC20 BK101; have hcz6_1 := zC21 BK101; have hfz6_0 := blk_frozen BK101.out 0; have hfz6_1 := blk_frozen BK101.out 1; (go_wp2_with (first | ((with_reducible refine gate_callee (f := 34) rfl ?_); refine goesL_ (some 7) rfl rfl Try.func34 (by kernel_rfl) rfl #[.int .i64 a0_0, .int .i64 1, .int .i64 6] rfl zz3 ?_; (with_reducible refine (impl_within.calls a0_0 1 6 true _ A4.out).mono ?_); rintro e w' ⟨rfl, ⟨nd, rfl⟩⟩; refine ⟨_, rfl, ?_⟩))); (go_meet); case rel => exact ⟨_, (decide ((l0_1.length : Int) > 12)), zz7, H', ⟨by first | omega | exact Nat.le_refl _⟩, ⟨zz1⟩, ⟨zz0⟩⟩
  replace c5 := Bool.eq_false_iff.mpr c5; subst c5; rw [if_neg (show ¬ (false = true) by decide)] at H; have H' := Aside0.mk H; clear H; have hcz7_0 := zC20 BK101; have hcz7_1 := zC21 BK101; have hfz7_0 := blk_frozen BK101.out 0; have hfz7_1 := blk_frozen BK101.out 1; (go_wp2_with (first | ((with_reducible refine gate_callee (f := 34) rfl ?_); refine goesL_ (some 7) rfl rfl Try.func34 (by kernel_rfl) rfl #[.int .i64 a0_0, .int .i64 1, .int .i64 6] rfl zz3 ?_; (with_reducible refine (impl_within.calls a0_0 1 6 false _ A4.out).mono ?_); rintro e w' ⟨rfl, ⟨nd, rfl⟩⟩; refine ⟨_, rfl, ?_⟩))); (go_meet); case rel => exact ⟨_, (true), zz7, H', ⟨by first | omega | exact Nat.le_refl _⟩, ⟨zz1⟩, ⟨zz0⟩⟩
 case rest =>
  clear HC2; (try clear p2); (try clear c3); (try clear c5); (try clear hcz6_0); (try clear hcz6_1); (try clear hcz7_0); (try clear hcz7_1); (try clear hfz6_0); (try clear hfz6_1); (try clear hfz7_0); (try clear hfz7_1); obtain ⟨kq, x14_1, rfl, HA, HJ1, BK101, HB⟩ := hcut
  cases kq with
  | zero => exact absurd HA.out (by simp [impl_EdgesOk.j0])
  | succ kj1 =>
   have H := HA.out; clear HA; simp only [impl_EdgesOk.j0] at H; by_cases c8 : x14_1 = true
   ·subst c8; rw [if_pos rfl] at H; obtain rfl := Option.some.inj H; go_wp2; go_ret; exact ⟨zz6, zz0⟩
   replace c8 := Bool.eq_false_iff.mpr c8; subst c8; rw [if_neg (show ¬ (false = true) by decide)] at H; have H' := Aside0.mk H; clear H; have hcz9_0 := zC20 BK101; have hcz9_1 := zC21 BK101; have hfz9_0 := blk_frozen BK101.out 0; have hfz9_1 := blk_frozen BK101.out 1; go_wp2; (go_loopg [18] kj1 (fun kq v18 w' => ∃ (x18_2 : Int), v18 = .int .i64 x18_2 ∧ Aside0 (impl_EdgesOk.l0 kq l0_1 (l0_1.length : Int) x18_2 a0_0 l0_1 = some r) ∧ Aside0 (kq ≤ kj1) ∧ Aside0 (w'.heap[gb101]? = some (.cells #[.int .i64 a0_0, (.slice A0_1 l0_1.length c0_1)] 31 (0, 0))) ∧ Aside0 (Below w.heap.size w w'))); case atStart => exact ⟨(0), zz7, H', ⟨Nat.le_refl _⟩, ⟨zz1⟩, ⟨zz0⟩⟩
   case round =>
    clear H'; (try clear p2); (try clear c3); (try clear c5); (try clear c8); (try clear hcz6_0); (try clear hcz6_1); (try clear hcz7_0); (try clear hcz7_1); (try clear hcz9_0); (try clear hcz9_1); (try clear hfz6_0); (try clear hfz6_1); (try clear hfz7_0); (try clear hfz7_1); (try clear hfz9_0); (try clear hfz9_1); (try clear p2); obtain ⟨x18_2, rfl, HA, HK2, BK101, HB⟩ := hrel
    cases gk with
    | zero => exact absurd HA.out (by simp [impl_EdgesOk.l0])
    | succ k2 =>
     have H := HA.out; clear HA; simp only [impl_EdgesOk.l0] at H; by_cases c10 : x18_2 < (l0_1.length : Int); rotate_left
     ·rw [if_neg c10] at H; have c10b0 := decide_eq_false c10; clear c10; obtain rfl := Option.some.inj H; go_wp2; go_ret; exact ⟨zz6, zz0⟩
     rw [if_pos c10] at H; have c10b0 := decide_eq_true c10; clear c10; by_cases c11 : 0 ≤ x18_2; rotate_left
     ·rw [if_neg c11] at H; exact absurd H (by simp)
     rw [if_pos c11] at H; have c11b0 := decide_eq_true c11; clear c11; by_cases c12 : x18_2 < (l0_1.length : Int); rotate_left
     ·rw [if_neg c12] at H; exact absurd H (by simp)
     rw [if_pos c12] at H; have c12b0 := decide_eq_true c12; clear c12; by_cases c13 : ((rd_T74 l0_1 x18_2).f0) < 0
     ·rw [if_pos c13] at H; have c13b0 := decide_eq_true c13; clear c13; obtain rfl := Option.some.inj H; have p103 : 0 ≤ (x18_2 : Int) := of_decide_eq_true zz4; have q103 : x18_2 < (l0_1.length : Int) := of_decide_eq_true zz4; obtain ⟨ad103, e103, hx103_0, hx103_1⟩ := at_T74 HR0_1.out x18_2 p103 q103; cases e103; replace hx103_0 := (HB.out.cell (World.block_lt_of_cell? w _ hx103_0)).trans hx103_0; replace hx103_1 := (HB.out.cell (World.block_lt_of_cell? w _ hx103_1)).trans hx103_1; replace p103 := eq_true p103; replace q103 := eq_true q103; (go_wp2_with (first | ((with_reducible refine gate_dst (N := 4) rfl ?_); (try (refine gate_guard (by rfl) ?_; dsimp only)); refine box_event ?hg (N := 4) ?hd (cs := #[.int .i64 0, .int .i64 0]) (t := 74) ?hr ?_; (case hd => rfl); (case hg => rfl); (case hr => exact zz9); intro gb104 hg w14 hbox hb; have n_ := zA7 (blk_below (g := gb101) (o := .cells #[.int .i64 a0_0, .slice (some ad103) l0_1.length c0_1] 31 (0, 0)) zz1 hb) (below_step zz0 hb) hbox (zz15 : w.heap.size ≤ gb104) (zz15 : w.heap.size ≤ gb104) (zz19 : gb101 ≠ gb104) (zz20 : gb104 ≠ gb101); clear BK101 HB; obtain ⟨BK101, HB, BK104, GW104, GE104, NB101_104, NB104_101⟩ := n_; clear hb hbox hg; have hnb15 := NB104_101.out; have hnc15 := NB101_104.out; have hcz16_0 := zC20 BK104; have hcz16_1 := zC21 BK104; have hfz16_0 := blk_frozen BK104.out 0; have hfz16_1 := blk_frozen BK104.out 1))); go_ret; exact ⟨zz6, zz11⟩
     rw [if_neg c13] at H; have c13b0 := decide_eq_false c13; clear c13; by_cases c17 : ((rd_T74 l0_1 x18_2).f0) ≥ ((rd_T74 l0_1 x18_2).f1)
     ·rw [if_pos c17] at H; have c17b0 : decide (((rd_T74 l0_1 x18_2).f1) ≤ ((rd_T74 l0_1 x18_2).f0)) = true := decide_eq_true c17; clear c17; obtain rfl := Option.some.inj H; have p103 : 0 ≤ (x18_2 : Int) := of_decide_eq_true zz4; have q103 : x18_2 < (l0_1.length : Int) := of_decide_eq_true zz4; obtain ⟨ad103, e103, hx103_0, hx103_1⟩ := at_T74 HR0_1.out x18_2 p103 q103; cases e103; replace hx103_0 := (HB.out.cell (World.block_lt_of_cell? w _ hx103_0)).trans hx103_0; replace hx103_1 := (HB.out.cell (World.block_lt_of_cell? w _ hx103_1)).trans hx103_1; replace p103 := eq_true p103; replace q103 := eq_true q103; (go_wp2_with (first | ((with_reducible refine gate_dst (N := 4) rfl ?_); (try (refine gate_guard (by rfl) ?_; dsimp only)); refine box_event ?hg (N := 4) ?hd (cs := #[.int .i64 0, .int .i64 0]) (t := 74) ?hr ?_; (case hd => rfl); (case hg => rfl); (case hr => exact zz9); intro gb104 hg w18 hbox hb; have n_ := zA7 (blk_below (g := gb101) (o := .cells #[.int .i64 a0_0, .slice (some ad103) l0_1.length c0_1] 31 (0, 0)) zz1 hb) (below_step zz0 hb) hbox (zz15 : w.heap.size ≤ gb104) (zz15 : w.heap.size ≤ gb104) (zz19 : gb101 ≠ gb104) (zz20 : gb104 ≠ gb101); clear BK101 HB; obtain ⟨BK101, HB, BK104, GW104, GE104, NB101_104, NB104_101⟩ := n_; clear hb hbox hg; have hnb19 := NB104_101.out; have hnc19 := NB101_104.out; have hcz20_0 := zC20 BK104; have hcz20_1 := zC21 BK104; have hfz20_0 := blk_frozen BK104.out 0; have hfz20_1 := blk_frozen BK104.out 1))); go_ret; exact ⟨zz6, zz11⟩
     rw [if_neg c17] at H; have c17b0 : decide (((rd_T74 l0_1 x18_2).f1) ≤ ((rd_T74 l0_1 x18_2).f0)) = false := decide_eq_false c17; clear c17; by_cases c21 : ((rd_T74 l0_1 x18_2).f1) ≥ a0_0
     ·rw [if_pos c21] at H; have c21b0 : decide (a0_0 ≤ ((rd_T74 l0_1 x18_2).f1)) = true := decide_eq_true c21; clear c21; obtain rfl := Option.some.inj H; have p103 : 0 ≤ (x18_2 : Int) := of_decide_eq_true zz4; have q103 : x18_2 < (l0_1.length : Int) := of_decide_eq_true zz4; obtain ⟨ad103, e103, hx103_0, hx103_1⟩ := at_T74 HR0_1.out x18_2 p103 q103; cases e103; replace hx103_0 := (HB.out.cell (World.block_lt_of_cell? w _ hx103_0)).trans hx103_0; replace hx103_1 := (HB.out.cell (World.block_lt_of_cell? w _ hx103_1)).trans hx103_1; replace p103 := eq_true p103; replace q103 := eq_true q103; (go_wp2_with (first | ((with_reducible refine gate_dst (N := 4) rfl ?_); (try (refine gate_guard (by rfl) ?_; dsimp only)); refine box_event ?hg (N := 4) ?hd (cs := #[.int .i64 0, .int .i64 0]) (t := 74) ?hr ?_; (case hd => rfl); (case hg => rfl); (case hr => exact zz9); intro gb104 hg w22 hbox hb; have n_ := zA7 (blk_below (g := gb101) (o := .cells #[.int .i64 a0_0, .slice (some ad103) l0_1.length c0_1] 31 (0, 0)) zz1 hb) (below_step zz0 hb) hbox (zz15 : w.heap.size ≤ gb104) (zz15 : w.heap.size ≤ gb104) (zz19 : gb101 ≠ gb104) (zz20 : gb104 ≠ gb101); clear BK101 HB; obtain ⟨BK101, HB, BK104, GW104, GE104, NB101_104, NB104_101⟩ := n_; clear hb hbox hg; have hnb23 := NB104_101.out; have hnc23 := NB101_104.out; have hcz24_0 := zC20 BK104; have hcz24_1 := zC21 BK104; have hfz24_0 := blk_frozen BK104.out 0; have hfz24_1 := blk_frozen BK104.out 1; have hcz25_0 := zC20 BK101; have hcz25_1 := zC21 BK101; have hfz25_0 := blk_frozen BK101.out 0; have hfz25_1 := blk_frozen BK101.out 1))); go_ret; exact ⟨zz6, zz11⟩
     rw [if_neg c21] at H; have c21b0 : decide (a0_0 ≤ ((rd_T74 l0_1 x18_2).f1)) = false := decide_eq_false c21; clear c21; have H' := Aside0.mk H; clear H; have p103 : 0 ≤ (x18_2 : Int) := of_decide_eq_true zz4; have q103 : x18_2 < (l0_1.length : Int) := of_decide_eq_true zz4; obtain ⟨ad103, e103, hx103_0, hx103_1⟩ := at_T74 HR0_1.out x18_2 p103 q103; cases e103; replace hx103_0 := (HB.out.cell (World.block_lt_of_cell? w _ hx103_0)).trans hx103_0; replace hx103_1 := (HB.out.cell (World.block_lt_of_cell? w _ hx103_1)).trans hx103_1; replace p103 := eq_true p103; replace q103 := eq_true q103; (go_wp2_with (first | ((with_reducible refine gate_dst (N := 4) rfl ?_); (try (refine gate_guard (by rfl) ?_; dsimp only)); refine box_event ?hg (N := 4) ?hd (cs := #[.int .i64 0, .int .i64 0]) (t := 74) ?hr ?_; (case hd => rfl); (case hg => rfl); (case hr => exact zz9); intro gb104 hg w26 hbox hb; have n_ := zA7 (blk_below (g := gb101) (o := .cells #[.int .i64 a0_0, .slice (some ad103) l0_1.length c0_1] 31 (0, 0)) zz1 hb) (below_step zz0 hb) hbox (zz15 : w.heap.size ≤ gb104) (zz15 : w.heap.size ≤ gb104) (zz19 : gb101 ≠ gb104) (zz20 : gb104 ≠ gb101); clear BK101 HB; obtain ⟨BK101, HB, BK104, GW104, GE104, NB101_104, NB104_101⟩ := n_; clear hb hbox hg; have hnb27 := NB104_101.out; have hnc27 := NB101_104.out; have hcz28_0 := zC20 BK104; have hcz28_1 := zC21 BK104; have hfz28_0 := blk_frozen BK104.out 0; have hfz28_1 := blk_frozen BK104.out 1; have hcz29_0 := zC20 BK101; have hcz29_1 := zC21 BK101; have hfz29_0 := blk_frozen BK101.out 0; have hfz29_1 := blk_frozen BK101.out 1))); go_roundg k2; (case measure => have := HJ1.out; have := HK2.out; omega); case rel => exact ⟨(wrap64 (x18_2 + 1)), zz7, H', ⟨by have := HJ1.out; have := HK2.out; omega⟩, ⟨zz13⟩, ⟨zz11⟩⟩
end Go.Proofs.Yteokcodadpjepaa.P
end

section
namespace Go.Proofs.Yteokcodadpjepaa.Cf
set_option linter.unusedVariables false
set_option linter.unusedSimpArgs false
open Go.RowKit Go.Proofs.YteokcodadpjepaaW.PrintWords
/-- With enough rounds the answer is there, and it has the property. -/
def Ep {α : Type} (g : Nat → Option α) (Q : α → Prop) : Prop := ∃ r, Q r ∧ ∃ K, ∀ k, K ≤ k → g k = some r
theorem Ep.now {α : Type} {Q : α → Prop} {r : α} (h : Q r) : Ep (fun _ => some r) Q := ⟨r, h, 0, fun _ _ => rfl⟩
theorem Ep.mono {α : Type} {g : Nat → Option α} {P Q : α → Prop} (h : Ep g P) (hpq : ∀ r, P r → Q r) : Ep g Q := by
  obtain ⟨r, hr, K, hK⟩ := h
  exact ⟨r, hpq r hr, K, hK⟩
theorem Ep.step {α : Type} {g f : Nat → Option α} {Q : α → Prop} (h : ∀ k, g (k + 1) = f k) (k : Ep f Q) : Ep g Q := by
  obtain ⟨r, hr, K, hK⟩ := k
  refine ⟨r, hr, K + 1, fun k hk => ?_⟩
  obtain ⟨m, rfl⟩ : ∃ m, k = m + 1 := ⟨k - 1, by omega⟩
  rw [h m]
  exact hK m (by omega)
theorem Ep.up {α : Type} {g : Nat → Option α} {Q : α → Prop} (h : Ep (fun k => g (k + 1)) Q) : Ep g Q := Ep.step (fun _ => rfl) h
theorem Ep.congr {α : Type} {g f : Nat → Option α} {Q : α → Prop} (h : ∀ k, g k = f k) (k : Ep f Q) : Ep g Q := by
  obtain ⟨r, hr, K, hK⟩ := k
  exact ⟨r, hr, K, fun k hk => (h k).trans (hK k hk)⟩
theorem Ep.bind {α β : Type} {g : Nat → Option α} {f : Nat → α → Option β} {P : α → Prop} {Q : β → Prop} (h : Ep g P) (k : ∀ a, P a → Ep (fun n => f n a) Q) : Ep (fun n => (g n).bind (f n)) Q := by
  obtain ⟨r, hr, K, hK⟩ := h
  obtain ⟨q, hq, L, hL⟩ := k r hr
  refine ⟨q, hq, max K L, fun k hk => ?_⟩
  show (g k).bind (f k) = some q
  rw [hK k (by omega)]
  exact hL k (by omega)
/-- A call without rounds. -/
theorem Ep.bind0 {α β : Type} {g : Option α} {f : Nat → α → Option β} {a : α} {Q : β → Prop} (h : g = some a) (k : Ep (fun n => f n a) Q) : Ep (fun n => g.bind (f n)) Q := by
  subst h
  exact k
theorem Ep.ite {α : Type} {c : Prop} [Decidable c] {f g : Nat → Option α} {Q : α → Prop} (h : c → Ep f Q) (k : ¬ c → Ep g Q) : Ep (fun n => if c then f n else g n) Q := by
  by_cases hc : c
  · simp only [hc, if_true]
    exact h hc
  · simp only [hc, if_false]
    exact k hc
theorem Ep.pos {α : Type} {c : Prop} [Decidable c] {f g : Nat → Option α} {Q : α → Prop} (hc : c) (h : Ep f Q) : Ep (fun n => if c then f n else g n) Q := Ep.ite (fun _ => h) (fun k => absurd hc k)
theorem Ep.neg {α : Type} {c : Prop} [Decidable c] {f g : Nat → Option α} {Q : α → Prop} (hc : ¬ c) (h : Ep g Q) : Ep (fun n => if c then f n else g n) Q := Ep.ite (fun k => absurd k hc) (fun _ => h)
theorem Ep.rounds {α : Type} {g : Nat → Option α} {r : α} (h : Ep g (· = r)) : ∃ k, g k = some r := by
  obtain ⟨q, rfl, K, hK⟩ := h
  exact ⟨K, hK K (Nat.le_refl _)⟩
/-- A number of a kind. -/
def Wf (k : IntKind) (x : Int) : Prop := (Lit.int k x).wf = true
theorem Wf.i64 {x : Int} (h : Wf .i64 x) : -9223372036854775808 ≤ x ∧ x ≤ 9223372036854775807 := by
  simpa [Wf, Lit.wf, IntKind.min, IntKind.max, IntKind.signed, IntKind.bits] using h
/-- A slice: its length is a number, and so on for its elements. -/
def SL {α : Type} (Q : α → Prop) (l : List α) : Prop := l.length ≤ 9223372036854775807 ∧ ∀ x ∈ l, Q x
theorem wrap_id {x : Int} (h0 : -9223372036854775808 ≤ x) (h1 : x ≤ 9223372036854775807) : wrap64 x = x := by
  unfold wrap64
  omega
theorem rd_nat (xs : List Int) (i : Nat) : rd xs (i : Int) = xs.getD i 0 := by simp [rd]
theorem rd_get {xs : List Int} {i : Nat} (h : i < xs.length) : rd xs (i : Int) = xs[i] := by simp [rd, List.getD, h]
end Go.Proofs.Yteokcodadpjepaa.Cf
end

section
namespace Go.Proofs.Yteokcodadpjepaa.Cf
set_option linter.unusedVariables false
set_option linter.unusedSimpArgs false
/-- Two vertices with an edge between them. -/
def Adj (es : List E) (a b : Int) : Prop := ∃ e ∈ es, (e.f0 = a ∧ e.f1 = b) ∨ (e.f0 = b ∧ e.f1 = a)
theorem Adj.symm {es : List E} {a b : Int} (h : Adj es a b) : Adj es b a := by
  obtain ⟨e, he, h⟩ := h
  exact ⟨e, he, h.symm⟩
/-- b can be reached from a. -/
inductive Conn (es : List E) (a : Int) : Int → Prop
  | refl : Conn es a a
  | tail {b c : Int} : Conn es a b → Adj es b c → Conn es a c
theorem Conn.trans {es : List E} {a b c : Int} (h : Conn es a b) (k : Conn es b c) : Conn es a c := by
  induction k with
  | refl => exact h
  | tail _ hadj ih => exact ih.tail hadj
theorem Conn.one {es : List E} {a b : Int} (h : Adj es a b) : Conn es a b := Conn.refl.tail h
theorem Conn.symm {es : List E} {a b : Int} (h : Conn es a b) : Conn es b a := by
  induction h with
  | refl => exact .refl
  | tail _ hadj ih => exact (Conn.one hadj.symm).trans ih
/-- What is closed under the edges holds what is reached. -/
theorem Conn.closed {es : List E} {S : Int → Prop} (hS : ∀ a b, S a → Adj es a b → S b) {a b : Int} (h : Conn es a b) (ha : S a) : S b := by
  induction h with
  | refl => exact ha
  | tail _ hadj ih => exact hS _ _ ih hadj
/-- An edge between two vertices below n. -/
def EOk (n : Int) (e : E) : Prop := 0 ≤ e.f0 ∧ e.f0 < e.f1 ∧ e.f1 < n
instance decEOk (n : Int) (e : E) : Decidable (EOk n e) := by unfold EOk; infer_instance
def EsOk (n : Int) (es : List E) : Prop := 1 ≤ n ∧ n ≤ 6 ∧ es.length ≤ 12 ∧ ∀ e ∈ es, EOk n e
instance decEsOk (n : Int) (es : List E) : Decidable (EsOk n es) := by unfold EsOk; infer_instance
def leE (a b : E) : Prop := a.f0 < b.f0 ∨ (a.f0 = b.f0 ∧ a.f1 ≤ b.f1)
instance decLeE (a b : E) : Decidable (leE a b) := by unfold leE; infer_instance
def Sorted (es : List E) : Prop := ∀ i, (h : i + 1 < es.length) → leE es[i] es[i + 1]
def Joined (n : Int) (es : List E) : Prop := ∀ v, 0 ≤ v → v < n → Conn es 0 v
/-- A valid graph. -/
def GOk (n : Int) (es : List E) : Prop := EsOk n es ∧ Sorted es ∧ Joined n es
instance decSorted (es : List E) : Decidable (Sorted es) := decidable_of_iff (∀ i, (h : i < es.length - 1) → leE (es[i]'(by omega)) (es[i + 1]'(by omega))) ⟨fun h i hi => h i (by omega), fun h i hi => h i (by omega)⟩
theorem EsOk.adj {n : Int} {es : List E} (h : ∀ e ∈ es, EOk n e) {a b : Int} (hab : Adj es a b) : 0 ≤ b ∧ b < n := by
  obtain ⟨e, he, hx⟩ := hab
  have := h e he
  unfold EOk at this
  omega
def stepM (m : Nat) (e : E) : Nat := if m.testBit e.f0.toNat || m.testBit e.f1.toNat then m ||| (2 ^ e.f0.toNat ||| 2 ^ e.f1.toNat) else m
def roundM (es : List E) (m : Nat) : Nat := es.foldl stepM m
def timesM (es : List E) : Nat → Nat → Nat
  | 0, m => m
  | k + 1, m => timesM es k (roundM es m)
theorem testBit_step {m : Nat} {e : E} {i : Nat} : (stepM m e).testBit i = (m.testBit i || ((m.testBit e.f0.toNat || m.testBit e.f1.toNat) && (i == e.f0.toNat || i == e.f1.toNat))) := by
  unfold stepM
  by_cases h : (m.testBit e.f0.toNat || m.testBit e.f1.toNat) = true
  · rw [if_pos h, h]
    simp only [Nat.testBit_or, Nat.testBit_two_pow, Bool.true_and]
    congr 1
    rw [Bool.eq_iff_iff]
    simp only [Bool.or_eq_true, decide_eq_true_eq, beq_iff_eq]
    omega
  · rw [if_neg h]
    simp only [Bool.not_eq_true] at h
    rw [h]
    simp
theorem step_mono {m : Nat} {e : E} {i : Nat} (h : m.testBit i = true) : (stepM m e).testBit i = true := by rw [testBit_step, h]; rfl
theorem round_mono (es : List E) : ∀ {m : Nat} {i : Nat}, m.testBit i = true → (roundM es m).testBit i = true := by
  induction es with
  | nil => intro m i h; exact h
  | cons e r ih => intro m i h; exact ih (step_mono h)
theorem times_mono (es : List E) : ∀ (k : Nat) {m : Nat} {i : Nat}, m.testBit i = true → (timesM es k m).testBit i = true
  | 0, _, _, h => h
  | k + 1, _, _, h => times_mono es k (round_mono es h)
/-- Every bit is of a vertex that can be reached. -/
def MOk (es : List E) (n : Int) (m : Nat) : Prop := ∀ i : Nat, m.testBit i = true → (i : Int) < n ∧ Conn es 0 i
theorem step_ok {es : List E} {n : Int} {m : Nat} {e : E} (he : e ∈ es) (hk : EOk n e) (h : MOk es n m) : MOk es n (stepM m e) := by
  intro i hi
  rw [testBit_step] at hi
  simp only [Bool.or_eq_true, Bool.and_eq_true, beq_iff_eq] at hi
  unfold EOk at hk
  have e0 : ((e.f0.toNat : Nat) : Int) = e.f0 := by omega
  have e1 : ((e.f1.toNat : Nat) : Int) = e.f1 := by omega
  rcases hi with hi | ⟨hm, hi⟩
  · exact h i hi
  · have key : Conn es 0 e.f0 ∧ Conn es 0 e.f1 := by
      rcases hm with hm | hm
      · have := (h _ hm).2
        rw [e0] at this
        exact ⟨this, this.tail ⟨e, he, .inl ⟨rfl, rfl⟩⟩⟩
      · have := (h _ hm).2
        rw [e1] at this
        exact ⟨this.tail ⟨e, he, .inr ⟨rfl, rfl⟩⟩, this⟩
    rcases hi with hi | hi
    · subst hi
      rw [e0]
      exact ⟨by omega, key.1⟩
    · subst hi
      rw [e1]
      exact ⟨by omega, key.2⟩
theorem round_ok {es : List E} {n : Int} (hes : ∀ e ∈ es, EOk n e) : ∀ (fs : List E), (∀ e ∈ fs, e ∈ es) → ∀ {m : Nat}, MOk es n m → MOk es n (roundM fs m) := by
  intro fs
  induction fs with
  | nil => intro _ m h; exact h
  | cons e r ih =>
    intro hs m h
    have he := hs e (List.mem_cons_self)
    exact ih (fun x hx => hs x (List.mem_cons_of_mem _ hx)) (step_ok he (hes e he) h)
theorem times_ok {es : List E} {n : Int} (hes : ∀ e ∈ es, EOk n e) : ∀ (k : Nat) {m : Nat}, MOk es n m → MOk es n (timesM es k m)
  | 0, _, h => h
  | k + 1, _, h => times_ok hes k (round_ok hes es (fun _ h => h) h)
/-- How many of the first n bits are set. -/
def cnt (n : Nat) (m : Nat) : Nat := (List.range n).countP (m.testBit ·)
theorem cnt_le (n m : Nat) : cnt n m ≤ n := by
  unfold cnt
  have := List.countP_le_length (p := fun i => m.testBit i) (l := List.range n)
  simpa using this
theorem countP_lt {α : Type} {p q : α → Bool} : ∀ {l : List α}, (∀ x ∈ l, p x = true → q x = true) → (∃ x ∈ l, p x = false ∧ q x = true) → l.countP p < l.countP q
  | [], _, h => by obtain ⟨x, hx, _⟩ := h; cases hx
  | y :: r, hpq, h => by
    have hle : r.countP p ≤ r.countP q := List.countP_mono_left (fun x hx => hpq x (List.mem_cons_of_mem _ hx))
    simp only [List.countP_cons]
    by_cases hy : p y = false ∧ q y = true
    · rw [hy.1, hy.2]
      simp
      omega
    · have hr : r.countP p < r.countP q := by
        apply countP_lt (fun x hx => hpq x (List.mem_cons_of_mem _ hx))
        obtain ⟨x, hx, h1⟩ := h
        rcases List.mem_cons.1 hx with rfl | hx
        · exact absurd h1 hy
        · exact ⟨x, hx, h1⟩
      have h2 := hpq y List.mem_cons_self
      by_cases hp : p y = true
      · rw [hp, h2 hp]
        simp
        omega
      · simp only [hp, if_false, Bool.not_eq_true] at *
        simp
        split <;> omega
theorem cnt_lt {n m m' : Nat} (h : ∀ i, m.testBit i = true → m'.testBit i = true) (hx : ∃ i, i < n ∧ m.testBit i = false ∧ m'.testBit i = true) : cnt n m < cnt n m' := by
  obtain ⟨i, hi, h1⟩ := hx
  exact countP_lt (fun x _ => h x) ⟨i, List.mem_range.2 hi, h1⟩
/-- A round that adds nothing has a closed set. -/
theorem round_fix_step {es : List E} : ∀ (fs : List E) {m : Nat}, (∀ i, (roundM fs m).testBit i = true → m.testBit i = true) → ∀ e ∈ fs, m.testBit e.f0.toNat = m.testBit e.f1.toNat := by
  intro fs
  induction fs with
  | nil => intro m _ e he; cases he
  | cons a r ih =>
    intro m h e he
    have hst : ∀ i, (stepM m a).testBit i = true → m.testBit i = true := fun i hi => h i (round_mono r hi)
    have heq : stepM m a = m := by
      apply Nat.eq_of_testBit_eq
      intro i
      rw [Bool.eq_iff_iff]
      exact ⟨hst i, step_mono⟩
    rcases List.mem_cons.1 he with rfl | he
    · have h0 := hst e.f0.toNat
      have h1 := hst e.f1.toNat
      rw [testBit_step] at h0 h1
      simp only [beq_self_eq_true, Bool.true_or, Bool.or_true, Bool.and_true, Bool.or_eq_true] at h0 h1
      rw [Bool.eq_iff_iff]
      exact ⟨fun hx => h1 (.inr (.inl hx)), fun hx => h0 (.inr (.inr hx))⟩
    · have : roundM (a :: r) m = roundM r m := by show roundM r (stepM m a) = _; rw [heq]
      exact ih (fun i hi => h i (by rw [this]; exact hi)) e he
theorem closed_of_fix {es : List E} {n : Int} (hes : ∀ e ∈ es, EOk n e) {m : Nat} (h : ∀ i, (roundM es m).testBit i = true → m.testBit i = true) (h0 : m.testBit 0 = true) (i : Nat) (hi : Conn es 0 i) : m.testBit i = true := by
  have hf := round_fix_step (es := es) es h
  have key : ∀ v : Int, Conn es 0 v → 0 ≤ v ∧ m.testBit v.toNat = true := by
    intro v hv
    refine hv.closed (S := fun v => 0 ≤ v ∧ m.testBit v.toNat = true) ?_ ⟨by omega, h0⟩
    rintro a b ⟨ha, hb⟩ ⟨e, he, hx⟩
    have hk := hes e he
    unfold EOk at hk
    rcases hx with ⟨h1, h2⟩ | ⟨h1, h2⟩
    · subst h1; subst h2
      exact ⟨by omega, by rw [← hf e he]; exact hb⟩
    · subst h1; subst h2
      exact ⟨by omega, by rw [hf e he]; exact hb⟩
  have := (key i hi).2
  simpa using this
theorem times_grow {es : List E} {n : Nat} (hes : ∀ e ∈ es, EOk n e) : ∀ (k : Nat) {m : Nat}, MOk es n m → m.testBit 0 = true →
    (∀ i : Nat, Conn es 0 i → (timesM es k m).testBit i = true) ∨ k + cnt n m ≤ cnt n (timesM es k m)
  | 0, m, _, _ => .inr (by simp [timesM])
  | k + 1, m, hm, h0 => by
    by_cases hfix : ∀ i, (roundM es m).testBit i = true → m.testBit i = true
    · left
      intro i hi
      exact times_mono es (k + 1) (closed_of_fix hes hfix h0 i hi)
    · obtain ⟨i, hi⟩ := Classical.not_forall.1 hfix
      have hi1 : (roundM es m).testBit i = true := Classical.byContradiction fun hc => hi (fun x => absurd x hc)
      have hi2 : m.testBit i = false := by
        cases hb : m.testBit i with
        | false => rfl
        | true => exact absurd (fun _ => hb) hi
      have hok := round_ok hes es (fun _ h => h) hm
      have hlt : cnt n m < cnt n (roundM es m) := cnt_lt (fun j hj => round_mono es hj) ⟨i, by have := (hok i hi1).1; omega, hi2, hi1⟩
      rcases times_grow hes k hok (round_mono es h0) with h | h
      · exact .inl h
      · right
        show k + 1 + _ ≤ cnt n (timesM es k (roundM es m))
        omega
theorem cnt_full {n m : Nat} (h : n ≤ cnt n m) : ∀ i, i < n → m.testBit i = true := by
  intro i hi
  apply Classical.byContradiction
  intro hc
  have hc' : m.testBit i = false := by simpa using hc
  have : cnt n m < cnt n (2 ^ n - 1) := by
    refine countP_lt (fun x hx _ => ?_) ⟨i, List.mem_range.2 hi, hc', ?_⟩
    · rw [Nat.testBit_two_pow_sub_one]; simpa using hx
    · rw [Nat.testBit_two_pow_sub_one]; simpa using hi
  have := cnt_le n (2 ^ n - 1)
  omega
/-- The set of bits tells whether all are joined. -/
theorem times_joined {es : List E} {n : Nat} (h1 : 1 ≤ n) (hes : ∀ e ∈ es, EOk n e) : timesM es n 1 = 2 ^ n - 1 ↔ Joined n es := by
  have hm1 : MOk es n 1 := by
    intro i hi
    have : i = 0 := by simpa [Nat.testBit_one_eq_true_iff_self_eq_zero] using hi
    subst this
    exact ⟨by omega, .refl⟩
  have h0 : (1 : Nat).testBit 0 = true := by decide
  have hok := times_ok hes n hm1
  constructor
  · intro h v hv0 hvn
    have := hok v.toNat (by rw [h, Nat.testBit_two_pow_sub_one]; simp; omega)
    have e : ((v.toNat : Nat) : Int) = v := by omega
    rw [e] at this
    exact this.2
  · intro hj
    have hall : ∀ i, i < n → (timesM es n 1).testBit i = true := by
      rcases times_grow hes n hm1 h0 with h | h
      · exact fun i hi => h i (hj i (by omega) (by omega))
      · have : n ≤ cnt n (timesM es n 1) := by omega
        exact cnt_full this
    apply Nat.eq_of_testBit_eq
    intro i
    rw [Nat.testBit_two_pow_sub_one, Bool.eq_iff_iff]
    simp only [decide_eq_true_eq]
    refine ⟨fun h => ?_, fun h => hall i h⟩
    have := (hok i h).1
    omega
/-- Whether a graph is valid. -/
def gOk (n : Int) (es : List E) : Bool := decide (EsOk n es) && (decide (Sorted es) && decide (timesM es n.toNat 1 = 2 ^ n.toNat - 1))
theorem gOk_iff {n : Int} {es : List E} : gOk n es = true ↔ GOk n es := by
  unfold gOk GOk
  simp only [Bool.and_eq_true, decide_eq_true_eq]
  constructor
  · rintro ⟨h1, h2, h3⟩
    have h := h1
    unfold EsOk at h
    obtain ⟨m, rfl⟩ := Int.eq_ofNat_of_zero_le (a := n) (by omega)
    exact ⟨h1, h2, (times_joined (n := m) (by omega) h.2.2.2).1 h3⟩
  · rintro ⟨h1, h2, h3⟩
    have h := h1
    unfold EsOk at h
    obtain ⟨m, rfl⟩ := Int.eq_ofNat_of_zero_le (a := n) (by omega)
    exact ⟨h1, h2, (times_joined (n := m) (by omega) h.2.2.2).2 h3⟩
/-- What a queue holds: vertices that can be reached, each once. -/
def QOk (es : List E) (n : Int) (q : List Int) : Prop := q.Nodup ∧ ∀ v ∈ q, (0 ≤ v ∧ v < n) ∧ Conn es 0 v
theorem nodup_len : ∀ (n : Nat) (l : List Int), l.Nodup → (∀ v ∈ l, 0 ≤ v ∧ v < n) → l.length ≤ n
  | 0, l, _, hv => by
    cases l with
    | nil => exact Nat.le_refl _
    | cons a r => have := hv a List.mem_cons_self; omega
  | n + 1, l, hl, hv => by
    by_cases hm : (n : Int) ∈ l
    · have h1 := nodup_len n (l.erase n) (hl.erase _) (fun v hx => by
        have h2 := (hl.mem_erase_iff).1 hx
        have := hv v h2.2
        have := h2.1
        omega)
      rw [List.length_erase_of_mem hm] at h1
      omega
    · have := nodup_len n l hl (fun v hx => by
        have := hv v hx
        have : v ≠ n := by rintro rfl; exact hm hx
        omega)
      omega
theorem len_nodup : ∀ (n : Nat) (l : List Int), (∀ i : Nat, i < n → (i : Int) ∈ l) → n ≤ l.length
  | 0, _, _ => Nat.zero_le _
  | n + 1, l, h => by
    have hm := h n (by omega)
    have := len_nodup n (l.erase n) (fun i hi => (List.mem_erase_of_ne (by omega)).2 (h i (by omega)))
    rw [List.length_erase_of_mem hm] at this
    have : 0 < l.length := List.length_pos_of_mem hm
    omega
/-- A queue that is closed holds what can be reached: it has n vertices just if all are joined. -/
theorem queue_joined {es : List E} {n : Nat} (h1 : 1 ≤ n) {q : List Int} (hq : QOk es n q) (h0 : (0 : Int) ∈ q) (hc : ∀ a ∈ q, ∀ b, Adj es a b → b ∈ q) : q.length = n ↔ Joined n es := by
  constructor
  · intro hl v hv0 hvn
    have : v ∈ q := by
      apply Classical.byContradiction
      intro hv
      have := nodup_len n (v :: q) (List.nodup_cons.2 ⟨hv, hq.1⟩) (fun x hx => by
        rcases List.mem_cons.1 hx with rfl | hx
        · exact ⟨hv0, hvn⟩
        · exact (hq.2 x hx).1)
      simp at this
      omega
    exact (hq.2 v this).2
  · intro hj
    have := nodup_len n q hq.1 (fun x hx => (hq.2 x hx).1)
    have := len_nodup n q (fun i hi => (hj i (by omega) (by omega)).closed (S := fun x => x ∈ q) (fun a b ha hab => hc a ha b hab) h0)
    omega
theorem QOk.push {es : List E} {n : Int} {q : List Int} (h : QOk es n q) {v : Int} (hv : v ∉ q) (h0 : 0 ≤ v ∧ v < n) (hc : Conn es 0 v) : QOk es n (q ++ [v]) := by
  refine ⟨?_, fun x hx => ?_⟩
  · rw [List.nodup_append]
    exact ⟨h.1, by simp, fun a ha b hb => by
      rw [List.mem_singleton.1 hb]
      rintro rfl
      exact hv ha⟩
  · rcases List.mem_append.1 hx with hx | hx
    · exact h.2 x hx
    · rw [List.mem_singleton.1 hx]
      exact ⟨h0, hc⟩
end Go.Proofs.Yteokcodadpjepaa.Cf
end

section
namespace Go.Proofs.Yteokcodadpjepaa.P
open Go.RowKit Go.Proofs.YteokcodadpjepaaW.PrintWords Go.Proofs.YteokcodadpjepaaW.PrintLast Go.Proofs.YteokcodadpjepaaW.PrintMore
attribute [local go_sem] max2_int min2_int max_two min_two max_three min_three max_four min_four
set_option linter.unusedVariables false
set_option linter.unusedSimpArgs false
def laws_eqIntS.l0 : Nat → List Int → List Int → Int → Option (Bool)
 | 0, _, _, _ => none
 | k + 1, x0, x1, x5 => if x5 < (x0.length : Int) then (if 0 ≤ x5 then (if x5 < (x1.length : Int) then (if (rd x0 x5) = (rd x1 x5) then (laws_eqIntS.l0 k x0 x1 (wrap64 (x5 + 1))) else (some false)) else (none)) else (none)) else (some true)
def laws_eqIntS.f (k : Nat) (l0 : List Int) (l1 : List Int) : Option (Bool) := if (l0.length : Int) = (l1.length : Int) then (laws_eqIntS.l0 k l0 l1 0) else (some false)
theorem laws_eqIntS.mono_l : ∀ k, (∀ y0 y1 y2, LeO (laws_eqIntS.l0 k y0 y1 y2) (laws_eqIntS.l0 (k + 1) y0 y1 y2))
 | 0 => fun _ _ _ r h => by simp [laws_eqIntS.l0] at h
 | k + 1 => by
  have ih0 := laws_eqIntS.mono_l k
  ·intro y0 y1 y2
   unfold laws_eqIntS.l0
   exact zm1
theorem laws_eqIntS.mono : ∀ a0 a1 k, LeO (laws_eqIntS.f k a0 a1) (laws_eqIntS.f (k + 1) a0 a1) := by
 intro a0 a1 k; have ih0 := laws_eqIntS.mono_l k; unfold laws_eqIntS.f; exact zm1
set_option maxHeartbeats 8000000 in
set_option maxRecDepth 100000 in
theorem laws_eqIntS.calls (k : Nat) (A0 : Option Addr) (c0 : Nat) (l0 : List Int) (A1 : Option Addr) (c1 : Nat) (l1 : List Int) (r : Bool) (w : World) (hr0 : Kd.C (Kd.int .i64) w A0 l0.length l0) (hc0 : l0.length ≤ c0) (hr1 : Kd.C (Kd.int .i64) w A1 l1.length l1) (hc1 : l1.length ≤ c1) (h : laws_eqIntS.f k l0 l1 = some r) :
  Calls Try.prog 12 #[.slice A0 l0.length c0, .slice A1 l1.length c1] w fun e w' => e = .returned (.bool r) ∧ Drawn0 w w' := by
 have HR0 := Aside0.mk hr0; have HC0 := Aside0.mk hc0; clear hr0 hc0; have HR1 := Aside0.mk hr1; have HC1 := Aside0.mk hc1; clear hr1 hc1; have H : (if (l0.length : Int) = (l1.length : Int) then (laws_eqIntS.l0 k l0 l1 0) else (some false)) = some r := h; clear h; by_cases c3 : (l0.length : Int) = (l1.length : Int); rotate_left
 ·rw [if_neg c3] at H; have c3b0 : ((l0.length : Int) == (l1.length : Int)) = false := beq_eq_false_iff_ne.mpr c3; have c3b1 : ((l0.length : Int) != (l1.length : Int)) = true := bne_iff_ne.mpr c3; (have c3b2 : (l0.length == l1.length) = false := by first | simpa using c3 | (simp at c3 ⊢; omega)); obtain rfl := Option.some.inj H; go_enter Try.func12, Try.ntmps12; go_wp2; (repeat (go_quiet (fail); try go_wp2)); go_ret; exact ⟨zz7, by repeat (first | exact Drawn0.refl _ | apply Drawn0.step)⟩
 rw [if_pos c3] at H; have c3b0 : ((l0.length : Int) == (l1.length : Int)) = true := beq_iff_eq.mpr c3; have c3b1 : ((l0.length : Int) != (l1.length : Int)) = false := bne_eq_false_iff_eq.mpr c3; (have c3b2 : (l0.length == l1.length) = true := by first | simpa using c3 | (simp at c3 ⊢; omega)); clear c3; have H' := Aside0.mk H; clear H; go_enter Try.func12, Try.ntmps12; go_wp2; (repeat (go_quiet (fail); try go_wp2)); (go_loopg [5] k (fun kq v5 w' => ∃ (x5_1 : Int), v5 = .int .i64 x5_1 ∧ Aside0 (laws_eqIntS.l0 kq l0 l1 x5_1 = some r) ∧ Aside0 (kq ≤ k) ∧ Drawn0 w w')); case atStart => exact ⟨(0), zz7, H', ⟨Nat.le_refl _⟩, by repeat (first | exact Drawn0.refl _ | apply Drawn0.step)⟩
 case round =>
  clear H'; (try clear c1); (try clear p2); (try clear c3); (try clear c3b0); (try clear c3b1); (try clear c3b2); obtain ⟨x5_1, rfl, HA, HK1, ⟨m1, rfl⟩⟩ := hrel
  cases gk with
  | zero => exact absurd HA.out (by simp [laws_eqIntS.l0])
  | succ k1 =>
   have H := HA.out; clear HA; simp only [laws_eqIntS.l0] at H; by_cases c4 : x5_1 < (l0.length : Int); rotate_left
   ·rw [if_neg c4] at H; have c4b0 := decide_eq_false c4; clear c4; obtain rfl := Option.some.inj H; go_wp2; (repeat (go_quiet (fail); try go_wp2)); go_ret; exact ⟨zz7, by repeat (first | exact Drawn0.refl _ | apply Drawn0.step)⟩
   rw [if_pos c4] at H; have c4b0 := decide_eq_true c4; clear c4; by_cases c5 : 0 ≤ x5_1; rotate_left
   ·rw [if_neg c5] at H; exact absurd H (by simp)
   rw [if_pos c5] at H; have c5b0 := decide_eq_true c5; clear c5; by_cases c6 : x5_1 < (l1.length : Int); rotate_left
   ·rw [if_neg c6] at H; exact absurd H (by simp)
   rw [if_pos c6] at H; have c6b0 := decide_eq_true c6; clear c6; by_cases c7 : (rd l0 x5_1) = (rd l1 x5_1); rotate_left
   ·rw [if_neg c7] at H; have c7b0 : ((rd l0 x5_1) == (rd l1 x5_1)) = false := beq_eq_false_iff_ne.mpr c7; have c7b1 : ((rd l0 x5_1) != (rd l1 x5_1)) = true := bne_iff_ne.mpr c7; obtain rfl := Option.some.inj H; have p101 : 0 ≤ (x5_1 : Int) := of_decide_eq_true zz4; have q101 : x5_1 < (l0.length : Int) := of_decide_eq_true zz4; obtain ⟨ad101, e101, hx101_0⟩ := Kd.at_int HR0.out x5_1 p101 q101; cases e101; replace p101 := eq_true p101; replace q101 := eq_true q101; have p102 : 0 ≤ (x5_1 : Int) := of_decide_eq_true zz4; have q102 : x5_1 < (l1.length : Int) := of_decide_eq_true zz4; obtain ⟨ad102, e102, hx102_0⟩ := Kd.at_int HR1.out x5_1 p102 q102; cases e102; replace p102 := eq_true p102; replace q102 := eq_true q102; go_wp2; (repeat (go_quiet (fail); try go_wp2)); go_ret; exact ⟨zz7, by repeat (first | exact Drawn0.refl _ | apply Drawn0.step)⟩
   rw [if_pos c7] at H; have c7b0 : ((rd l0 x5_1) == (rd l1 x5_1)) = true := beq_iff_eq.mpr c7; have c7b1 : ((rd l0 x5_1) != (rd l1 x5_1)) = false := bne_eq_false_iff_eq.mpr c7; clear c7; have H' := Aside0.mk H; clear H; have p101 : 0 ≤ (x5_1 : Int) := of_decide_eq_true zz4; have q101 : x5_1 < (l0.length : Int) := of_decide_eq_true zz4; obtain ⟨ad101, e101, hx101_0⟩ := Kd.at_int HR0.out x5_1 p101 q101; cases e101; replace p101 := eq_true p101; replace q101 := eq_true q101; have p102 : 0 ≤ (x5_1 : Int) := of_decide_eq_true zz4; have q102 : x5_1 < (l1.length : Int) := of_decide_eq_true zz4; obtain ⟨ad102, e102, hx102_0⟩ := Kd.at_int HR1.out x5_1 p102 q102; cases e102; replace p102 := eq_true p102; replace q102 := eq_true q102; go_wp2; (repeat (go_quiet (fail); try go_wp2)); go_roundg k1; (case measure => have := HK1.out; omega); case rel => exact ⟨(wrap64 (x5_1 + 1)), zz7, H', ⟨zz39⟩, by repeat (first | exact Drawn0.refl _ | apply Drawn0.step)⟩
def laws_markIntS.l0 : Nat → List Int → Int → Int → Option (Int × List Int)
 | 0, _, _, _ => none
 | k + 1, x0, x1, x5 => if x5 < (x0.length : Int) then (if 0 ≤ x5 then (laws_markIntS.l0 k (x0.set (x5 : Int).toNat x1) (wrap64 (x1 + 1)) (wrap64 (x5 + 1))) else (none)) else (some (x1, x0))
def laws_markIntS.f (k : Nat) (l0 : List Int) (a1 : Int) : Option (Int × List Int) := laws_markIntS.l0 k l0 a1 0
theorem laws_markIntS.mono_l : ∀ k, (∀ y0 y1 y2, LeO (laws_markIntS.l0 k y0 y1 y2) (laws_markIntS.l0 (k + 1) y0 y1 y2))
 | 0 => fun _ _ _ r h => by simp [laws_markIntS.l0] at h
 | k + 1 => by
  have ih0 := laws_markIntS.mono_l k
  ·intro y0 y1 y2
   unfold laws_markIntS.l0
   exact zm1
theorem laws_markIntS.mono : ∀ a0 a1 k, LeO (laws_markIntS.f k a0 a1) (laws_markIntS.f (k + 1) a0 a1) := by
 intro a0 a1 k; have ih0 := laws_markIntS.mono_l k; unfold laws_markIntS.f; exact zm1
set_option maxHeartbeats 8000000 in
set_option maxRecDepth 100000 in
theorem laws_markIntS.calls (k : Nat) (P0_ : Nat → Prop) (u9000_ : Value) (l0 : List Int) (a1 : Int) (r1 : Int) (r2 : List Int) (w0 w : World) (hB : Below w0.heap.size w0 w) (ho0 : Kd.R (Kd.int .i64) 3 w w0.heap.size P0_ u9000_ l0) (h : laws_markIntS.f k l0 a1 = some (r1, r2)) :
  Calls Try.prog 15 #[u9000_, .int .i64 a1] w fun e w' => e = .returned (.int .i64 r1) ∧ Kd.R (Kd.int .i64) 3 w' w0.heap.size (fun k_ => (P0_ k_ ∨ w.heap.size ≤ k_)) u9000_ r2 ∧ Below w0.heap.size w0 w' ∧ Kept w w' (fun k_ => P0_ k_) := by
 have HO0 := Aside0.mk (show Kd.R (Kd.int .i64) 3 w w0.heap.size (fun k_ => (P0_ k_ ∨ w.heap.size ≤ k_)) u9000_ l0 from Kd.R_mono ho0 (fun k_ hk => (.inl hk))); have HK := Aside0.mk (Kept.refl w (fun k_ => P0_ k_)); have HW0 := Aside0.mk hB.size; have HB := Aside0.mk hB; clear hB; have H : (laws_markIntS.l0 k l0 a1 0) = some (r1, r2) := h; clear h; have H' := Aside0.mk H; clear H; go_enter Try.func15, Try.ntmps15; go_wp2; (go_loopg [1, 5] k (fun kq v1 v5 w' => ∃ (x0_1 : List Int) (x1_1 : Int) (x5_1 : Int), v1 = .int .i64 x1_1 ∧ v5 = .int .i64 x5_1 ∧ Aside0 (laws_markIntS.l0 kq x0_1 x1_1 x5_1 = some (r1, r2)) ∧ Aside0 (kq ≤ k) ∧ Aside0 (Kd.R (Kd.int .i64) 3 w' w0.heap.size (fun k_ => (P0_ k_ ∨ w.heap.size ≤ k_)) u9000_ x0_1) ∧ Aside0 (Kept w w' (fun k_ => P0_ k_)) ∧ Aside0 (Below w0.heap.size w0 w'))); case atStart => exact ⟨(l0), (a1), (0), zz7, zz7, H', ⟨Nat.le_refl _⟩, ⟨by (with_reducible repeat (first | apply Kd.R_alloc | apply Kd.R_drewN | apply Kd.R_drew)); exact HO0.out⟩, ⟨zz32⟩, ⟨zz2⟩⟩
 case round =>
  clear H'; (try clear c1); (try clear p2); obtain ⟨x0_1, x1_1, x5_1, rfl, rfl, HA, HK1, HO_0, HK, HB⟩ := hrel
  cases gk with
  | zero => exact absurd HA.out (by simp [laws_markIntS.l0])
  | succ k1 =>
   have H := HA.out; clear HA; simp only [laws_markIntS.l0] at H; by_cases c3 : x5_1 < (x0_1.length : Int); rotate_left
   ·rw [if_neg c3] at H; have c3b0 := decide_eq_false c3; clear c3; simp only [Option.some.injEq, Prod.mk.injEq] at H; obtain ⟨rfl, rfl⟩ := H; obtain ⟨Ao9, co9, eo9⟩ := Kd.R_slice HO_0.out; subst eo9; go_wp2; go_ret; exact ⟨zz6, by (with_reducible repeat (first | apply Kd.R_alloc | apply Kd.R_drewN | apply Kd.R_drew)); exact HO_0.out, zz2, zz32⟩
   rw [if_pos c3] at H; have c3b0 := decide_eq_true c3; clear c3; by_cases c4 : 0 ≤ x5_1; rotate_left
   ·rw [if_neg c4] at H; exact absurd H (by simp)
   rw [if_pos c4] at H; have c4b0 := decide_eq_true c4; clear c4; obtain ⟨y101, hy_⟩ : ∃ y_ : List Int, y_ = (x0_1.set (x5_1 : Int).toNat x1_1) := ⟨_, rfl⟩; (replace H : (laws_markIntS.l0 k1 y101 (wrap64 (x1_1 + 1)) (wrap64 (x5_1 + 1))) = some (r1, r2) := zzY); have Ny101 := Aside0.mk hy_; clear hy_; have H' := Aside0.mk H; clear H; obtain ⟨Ao6, co6, eo6⟩ := Kd.R_slice HO_0.out; subst eo6; have p5 : 0 ≤ (x5_1 : Int) := of_decide_eq_true zz4; have q5 : (x5_1 : Int) < ((x0_1.length : Int) : Int) := of_decide_eq_true zz4; obtain ⟨go5, co5, eo5, gb5, gl5, cl5, HG5⟩ := Kd.R_form HO_0.out (by omega); (first | cases eo5 | (injection eo5 with ea_ en_ ec_; (first | subst ea_ | (injection ea_ with ea_; subst ea_)); subst ec_; clear en_)); have GB5 := Aside0.mk gb5; have GG5 := Aside0.mk HG5; clear gb5 gl5 HG5; have HMgo5 := Aside0.mk (show (P0_ go5 ∨ w.heap.size ≤ go5) from (HO_0.out.1 _ rfl)); obtain ⟨hx5_0, hf5_0⟩ := Kd.R_celln 0 HO_0.out (x5_1 : Int) p5 q5; replace p5 := eq_true p5; replace q5 := eq_true q5; have HP7 := Kd.R_putg HO_0.out (x5_1 : Int) x1_1; (go_wp2_with (first | ((with_reducible refine gate_store (t := 3) (p := 15) rfl ?_); refine store_event (t := 3) (p := 15) (v := ?vo_w8) (w1 := (wr.setCell ⟨go5, (x5_1 : Int).toNat, none⟩ (.int .i64 x1_1))) ?hg ?ho ?hn ?hr ?_; (case ho => rfl); (case hg => rfl); (case hn => rfl); (case hr => exact zz9); intro w8 hw; have hg : wr.grownBy w8 (some go5) := (by rw [hw]; exact HP7.2); have hp_ : Kd.R (Kd.int .i64) 3 w8 w0.heap.size (fun k_ => (P0_ k_ ∨ w.heap.size ≤ k_)) (.slice (some ⟨go5, 0, none⟩) x0_1.length co6) y101 := (by rw [hw, Ny101.out]; exact HP7.1); clear HP7; have n_ := zA3 hp_ (by rw [hw]; exact below_set (HB.out) GB5.out : Below w0.heap.size w0 w8) (Kept.of_grown (S := (fun k_ => P0_ k_)) hg zz32 (fun k_ e_ => (HO_0.out.1 k_ e_))); clear HO_0 HB HK; obtain ⟨HO_0, HB, HK⟩ := n_; clear hg hw hp_))); go_roundg k1; (case measure => have := HK1.out; omega); case rel => exact ⟨(y101), (wrap64 (x1_1 + 1)), (wrap64 (x5_1 + 1)), zz7, zz7, H', ⟨zz39⟩, ⟨by (with_reducible repeat (first | apply Kd.R_alloc | apply Kd.R_drewN | apply Kd.R_drew)); exact HO_0.out⟩, ⟨zz32⟩, ⟨zz2⟩⟩
def laws_heldIntS.l0 : Nat → List Int → Int → Int → Option (Int)
 | 0, _, _, _ => none
 | k + 1, x0, x1, x5 => if x5 < (x0.length : Int) then (if 0 ≤ x5 then (if (rd x0 x5) = x1 then (laws_heldIntS.l0 k x0 (wrap64 (x1 + 1)) (wrap64 (x5 + 1))) else (some (-1))) else (none)) else (some x1)
def laws_heldIntS.f (k : Nat) (l0 : List Int) (a1 : Int) : Option (Int) := laws_heldIntS.l0 k l0 a1 0
theorem laws_heldIntS.mono_l : ∀ k, (∀ y0 y1 y2, LeO (laws_heldIntS.l0 k y0 y1 y2) (laws_heldIntS.l0 (k + 1) y0 y1 y2))
 | 0 => fun _ _ _ r h => by simp [laws_heldIntS.l0] at h
 | k + 1 => by
  have ih0 := laws_heldIntS.mono_l k
  ·intro y0 y1 y2
   unfold laws_heldIntS.l0
   exact zm1
theorem laws_heldIntS.mono : ∀ a0 a1 k, LeO (laws_heldIntS.f k a0 a1) (laws_heldIntS.f (k + 1) a0 a1) := by
 intro a0 a1 k; have ih0 := laws_heldIntS.mono_l k; unfold laws_heldIntS.f; exact zm1
set_option maxHeartbeats 8000000 in
set_option maxRecDepth 100000 in
theorem laws_heldIntS.calls (k : Nat) (A0 : Option Addr) (c0 : Nat) (l0 : List Int) (a1 : Int) (r : Int) (w : World) (hr0 : Kd.C (Kd.int .i64) w A0 l0.length l0) (hc0 : l0.length ≤ c0) (h : laws_heldIntS.f k l0 a1 = some r) :
  Calls Try.prog 16 #[.slice A0 l0.length c0, .int .i64 a1] w fun e w' => e = .returned (.int .i64 r) ∧ Drawn0 w w' := by
 have HR0 := Aside0.mk hr0; have HC0 := Aside0.mk hc0; clear hr0 hc0; have H : (laws_heldIntS.l0 k l0 a1 0) = some r := h; clear h; have H' := Aside0.mk H; clear H; go_enter Try.func16, Try.ntmps16; go_wp2; (go_loopg [1, 5] k (fun kq v1 v5 w' => ∃ (x1_1 : Int) (x5_1 : Int), v1 = .int .i64 x1_1 ∧ v5 = .int .i64 x5_1 ∧ Aside0 (laws_heldIntS.l0 kq l0 x1_1 x5_1 = some r) ∧ Aside0 (kq ≤ k) ∧ Drawn0 w w')); case atStart => exact ⟨(a1), (0), zz7, zz7, H', ⟨Nat.le_refl _⟩, by repeat (first | exact Drawn0.refl _ | apply Drawn0.step)⟩
 case round =>
  clear H'; (try clear c1); (try clear p2); obtain ⟨x1_1, x5_1, rfl, rfl, HA, HK1, ⟨m1, rfl⟩⟩ := hrel
  cases gk with
  | zero => exact absurd HA.out (by simp [laws_heldIntS.l0])
  | succ k1 =>
   have H := HA.out; clear HA; simp only [laws_heldIntS.l0] at H; by_cases c3 : x5_1 < (l0.length : Int); rotate_left
   ·rw [if_neg c3] at H; have c3b0 := decide_eq_false c3; clear c3; obtain rfl := Option.some.inj H; go_wp2; go_ret; exact ⟨zz7, by repeat (first | exact Drawn0.refl _ | apply Drawn0.step)⟩
   rw [if_pos c3] at H; have c3b0 := decide_eq_true c3; clear c3; by_cases c4 : 0 ≤ x5_1; rotate_left
   ·rw [if_neg c4] at H; exact absurd H (by simp)
   rw [if_pos c4] at H; have c4b0 := decide_eq_true c4; clear c4; by_cases c5 : (rd l0 x5_1) = x1_1; rotate_left
   ·rw [if_neg c5] at H; have c5b0 : ((rd l0 x5_1) == x1_1) = false := beq_eq_false_iff_ne.mpr c5; have c5b1 : ((rd l0 x5_1) != x1_1) = true := bne_iff_ne.mpr c5; obtain rfl := Option.some.inj H; have p101 : 0 ≤ (x5_1 : Int) := of_decide_eq_true zz4; have q101 : x5_1 < (l0.length : Int) := of_decide_eq_true zz4; obtain ⟨ad101, e101, hx101_0⟩ := Kd.at_int HR0.out x5_1 p101 q101; cases e101; replace p101 := eq_true p101; replace q101 := eq_true q101; go_wp2; go_ret; exact ⟨zz7, by repeat (first | exact Drawn0.refl _ | apply Drawn0.step)⟩
   rw [if_pos c5] at H; have c5b0 : ((rd l0 x5_1) == x1_1) = true := beq_iff_eq.mpr c5; have c5b1 : ((rd l0 x5_1) != x1_1) = false := bne_eq_false_iff_eq.mpr c5; clear c5; have H' := Aside0.mk H; clear H; have p101 : 0 ≤ (x5_1 : Int) := of_decide_eq_true zz4; have q101 : x5_1 < (l0.length : Int) := of_decide_eq_true zz4; obtain ⟨ad101, e101, hx101_0⟩ := Kd.at_int HR0.out x5_1 p101 q101; cases e101; replace p101 := eq_true p101; replace q101 := eq_true q101; go_wp2; go_roundg k1; (case measure => have := HK1.out; omega); case rel => exact ⟨(wrap64 (x1_1 + 1)), (wrap64 (x5_1 + 1)), zz7, zz7, H', ⟨zz39⟩, by repeat (first | exact Drawn0.refl _ | apply Drawn0.step)⟩
end Go.Proofs.Yteokcodadpjepaa.P
end

section
namespace Go.Proofs.Yteokcodadpjepaa.Cf
set_option linter.unusedVariables false
set_option linter.unusedSimpArgs false
open Go.RowKit Go.Proofs.YteokcodadpjepaaW.PrintWords Go.Proofs.Yteokcodadpjepaa.P
theorem wrap_succ {i : Nat} (h : i < 4611686018427387904) : wrap64 ((i : Int) + 1) = ((i + 1 : Nat) : Int) := by
  rw [wrap_id (by omega) (by omega)]
  omega
theorem toIntS_l0 (x0 : List Int) (h : x0.length ≤ 4611686018427387904) : ∀ (d i : Nat) (x3 : List Int), i + d = x0.length → x3.length = x0.length → (∀ j, j < i → x3[j]? = x0[j]?) → Ep (fun k => laws_toIntS.l0 k x0 x3 (i : Int)) (· = x0) := by
  intro d
  induction d with
  | zero =>
    intro i x3 hi hl hx
    refine Ep.up ?_
    simp only [laws_toIntS.l0]
    refine Ep.neg (by omega) (Ep.now ?_)
    apply List.ext_getElem?
    intro j
    by_cases hj : j < i
    · exact hx j hj
    · rw [List.getElem?_eq_none (by omega), List.getElem?_eq_none (by omega)]
  | succ d ih =>
    intro i x3 hi hl hx
    refine Ep.up ?_
    simp only [laws_toIntS.l0]
    refine Ep.pos (by omega) (Ep.pos (by omega) (Ep.pos (by omega) ?_))
    rw [wrap_succ (by omega)]
    refine ih (i + 1) _ (by omega) (by simpa using hl) ?_
    intro j hj
    rw [Int.toNat_natCast, rd_get (show i < x0.length by omega)]
    by_cases e : i = j
    · subst e
      rw [List.getElem?_set_self (by omega), List.getElem?_eq_getElem (by omega)]
    · rw [List.getElem?_set_ne e]
      exact hx j (by omega)
theorem toIntS_ok (l : List Int) (h : l.length ≤ 1048576) : Ep (fun k => laws_toIntS.f k l) (· = l) := by
  simp only [laws_toIntS.f]
  refine Ep.pos (by omega) (Ep.pos (by simp; omega) ?_)
  exact toIntS_l0 l (by omega) l.length 0 _ (by omega) (by simp) (fun j hj => by omega)
theorem eqIntS_l0 (x0 x1 : List Int) (h : x0.length ≤ 1048576) (hl : x0.length = x1.length) : ∀ (d i : Nat), i + d = x0.length → (∀ j, j < i → x0[j]? = x1[j]?) → Ep (fun k => laws_eqIntS.l0 k x0 x1 (i : Int)) (· = decide (x0 = x1)) := by
  intro d
  induction d with
  | zero =>
    intro i hi hx
    refine Ep.up ?_
    simp only [laws_eqIntS.l0]
    refine Ep.neg (by omega) (Ep.now ?_)
    have : x0 = x1 := by
      apply List.ext_getElem?
      intro j
      by_cases hj : j < i
      · exact hx j hj
      · rw [List.getElem?_eq_none (by omega), List.getElem?_eq_none (by omega)]
    simp [this]
  | succ d ih =>
    intro i hi hx
    refine Ep.up ?_
    simp only [laws_eqIntS.l0]
    refine Ep.pos (by omega) (Ep.pos (by omega) (Ep.pos (by omega) ?_))
    rw [rd_get (show i < x0.length by omega), rd_get (show i < x1.length by omega), wrap_succ (by omega)]
    refine Ep.ite (fun e => ?_) (fun e => Ep.now ?_)
    · refine ih (i + 1) (by omega) ?_
      intro j hj
      by_cases ej : j = i
      · subst ej
        rw [List.getElem?_eq_getElem (by omega), List.getElem?_eq_getElem (by omega), e]
      · exact hx j (by omega)
    · have : x0 ≠ x1 := by
        rintro rfl
        exact e rfl
      simp [this]
theorem eqIntS_any (x0 x1 : List Int) (h : x0.length ≤ 1048576) : Ep (fun k => laws_eqIntS.f k x0 x1) (· = decide (x0 = x1)) := by
  simp only [laws_eqIntS.f]
  refine Ep.ite (fun e => eqIntS_l0 x0 x1 h (by omega) x0.length 0 (by omega) (fun j hj => by omega)) (fun e => Ep.now ?_)
  have : x0 ≠ x1 := by
    rintro rfl
    exact e rfl
  simp [this]
theorem eqIntS_ok (x : List Int) (h : x.length ≤ 1048576) : Ep (fun k => laws_eqIntS.f k x x) (· = true) := (eqIntS_any x x h).mono (fun r hr => by rw [hr]; simp)
/-- The marks: k, k + 1, and so on. -/
def marks (k : Int) (n : Nat) : List Int := (List.range n).map (fun i : Nat => k + i)
theorem marks_len (k : Int) (n : Nat) : (marks k n).length = n := by simp [marks]
theorem marks_get {k : Int} {n i : Nat} (h : i < n) : (marks k n)[i]? = some (k + i) := by simp [marks, h]
theorem markIntS_l0 (n : Nat) (a : Int) (hn : n ≤ 1048576) (ha : 0 ≤ a ∧ a ≤ 1099511627776) : ∀ (d i : Nat) (x0 : List Int), i + d = n → x0.length = n → (∀ j, j < i → x0[j]? = (marks a n)[j]?) → Ep (fun k => laws_markIntS.l0 k x0 (a + i) (i : Int)) (· = (a + n, marks a n)) := by
  intro d
  induction d with
  | zero =>
    intro i x0 hi hl hx
    refine Ep.up ?_
    simp only [laws_markIntS.l0]
    refine Ep.neg (by omega) (Ep.now ?_)
    have : x0 = marks a n := by
      apply List.ext_getElem?
      intro j
      by_cases hj : j < i
      · exact hx j hj
      · rw [List.getElem?_eq_none (by omega), List.getElem?_eq_none (by rw [marks_len]; omega)]
    rw [this]
    have : i = n := by omega
    rw [this]
  | succ d ih =>
    intro i x0 hi hl hx
    refine Ep.up ?_
    simp only [laws_markIntS.l0]
    refine Ep.pos (by omega) (Ep.pos (by omega) ?_)
    rw [wrap_succ (by omega), wrap_id (x := a + i + 1) (by omega) (by omega), show a + (i : Int) + 1 = a + ((i + 1 : Nat) : Int) by omega]
    refine ih (i + 1) _ (by omega) (by simpa using hl) ?_
    intro j hj
    rw [Int.toNat_natCast]
    by_cases e : i = j
    · subst e
      rw [List.getElem?_set_self (by omega), marks_get (by omega)]
    · rw [List.getElem?_set_ne e]
      exact hx j (by omega)
theorem markIntS_ok (x : List Int) (a : Int) (h : x.length ≤ 1048576) (ha : 0 ≤ a ∧ a ≤ 1099511627776) : Ep (fun k => laws_markIntS.f k x a) (· = (a + x.length, marks a x.length)) := by
  have := markIntS_l0 x.length a h ha x.length 0 x (by omega) rfl (fun j hj => by omega)
  simp only [laws_markIntS.f]
  simpa using this
theorem heldIntS_l0 (n : Nat) (a : Int) (hn : n ≤ 1048576) (ha : 0 ≤ a ∧ a ≤ 1099511627776) : ∀ (d i : Nat), i + d = n → Ep (fun k => laws_heldIntS.l0 k (marks a n) (a + i) (i : Int)) (· = a + n) := by
  intro d
  induction d with
  | zero =>
    intro i hi
    refine Ep.up ?_
    simp only [laws_heldIntS.l0]
    refine Ep.neg (by rw [marks_len]; omega) (Ep.now ?_)
    have : i = n := by omega
    rw [this]
  | succ d ih =>
    intro i hi
    refine Ep.up ?_
    simp only [laws_heldIntS.l0]
    refine Ep.pos (by rw [marks_len]; omega) (Ep.pos (by omega) (Ep.pos ?_ ?_))
    · rw [rd_nat, List.getD_eq_getElem?_getD, marks_get (by omega)]
      rfl
    · rw [wrap_succ (by omega), wrap_id (x := a + i + 1) (by omega) (by omega), show a + (i : Int) + 1 = a + ((i + 1 : Nat) : Int) by omega]
      exact ih (i + 1) (by omega)
theorem heldIntS_ok (n : Nat) (a : Int) (h : n ≤ 1048576) (ha : 0 ≤ a ∧ a ≤ 1099511627776) : Ep (fun k => laws_heldIntS.f k (marks a n) a) (· = a + n) := by
  have := heldIntS_l0 n a h ha n 0 (by omega)
  simp only [laws_heldIntS.f]
  simpa using this
theorem rdE_get {es : List E} {i : Nat} (h : i < es.length) : rd_T74 es (i : Int) = es[i] := by simp [rd_T74, List.getD, h]
theorem l01In_eq (a b c : Int) : spec_l01In.f a b c = some (decide (b ≤ a ∧ a ≤ c)) := by
  unfold spec_l01In.f
  by_cases h : a ≥ b
  · rw [if_pos h]
    have : (b ≤ a ∧ a ≤ c) ↔ a ≤ c := ⟨fun x => x.2, fun x => ⟨h, x⟩⟩
    simp only [this]
  · rw [if_neg h]
    have : ¬ (b ≤ a ∧ a ≤ c) := fun x => h x.1
    simp only [this, decide_false]
theorem forall_drop {es : List E} {P : E → Prop} {i : Nat} (h : i < es.length) : (∀ e ∈ es.drop i, P e) ↔ (P es[i] ∧ ∀ e ∈ es.drop (i + 1), P e) := by
  rw [List.drop_eq_getElem_cons h]
  simp only [List.mem_cons, forall_eq_or_imp]
theorem specEdges_l0 (n : Int) (hn : 1 ≤ n ∧ n ≤ 6) (es : List E) (hl : es.length ≤ 12) : ∀ (d i : Nat), i + d = es.length → Ep (fun k => spec_EdgesOk.l0 k es (es.length : Int) (i : Int) n es) (· = decide (∀ e ∈ es.drop i, EOk n e)) := by
  intro d
  induction d with
  | zero =>
    intro i hi
    refine Ep.up ?_
    simp only [spec_EdgesOk.l0]
    refine Ep.neg (by omega) (Ep.now ?_)
    rw [List.drop_of_length_le (by omega)]
    simp
  | succ d ih =>
    intro i hi
    have hlt : i < es.length := by omega
    refine Ep.up ?_
    simp only [spec_EdgesOk.l0]
    refine Ep.pos (by omega) (Ep.pos (by omega) (Ep.pos (by omega) ?_))
    rw [rdE_get hlt, wrap_id (x := n - 1) (by omega) (by omega)]
    refine Ep.bind0 (l01In_eq _ _ _) ?_
    refine Ep.ite (fun h0 => ?_) (fun h0 => Ep.now ?_)
    · have h0' : 0 ≤ es[i].f0 ∧ es[i].f0 ≤ n - 1 := by simpa using h0
      rw [wrap_id (x := es[i].f0 + 1) (by omega) (by omega)]
      refine Ep.bind0 (l01In_eq _ _ _) ?_
      refine Ep.ite (fun h1 => ?_) (fun h1 => Ep.now ?_)
      · have h1' : es[i].f0 + 1 ≤ es[i].f1 ∧ es[i].f1 ≤ n - 1 := by simpa using h1
        rw [wrap_succ (by omega)]
        refine (ih (i + 1) (by omega)).mono ?_
        rintro _ rfl
        have : EOk n es[i] := by unfold EOk; omega
        simp only [forall_drop hlt, this, true_and]
      · have h1' : ¬ (es[i].f0 + 1 ≤ es[i].f1 ∧ es[i].f1 ≤ n - 1) := by simpa using h1
        have : ¬ EOk n es[i] := by unfold EOk; omega
        simp only [forall_drop hlt, this, false_and, decide_false]
    · have h0' : ¬ (0 ≤ es[i].f0 ∧ es[i].f0 ≤ n - 1) := by simpa using h0
      have : ¬ EOk n es[i] := by unfold EOk; omega
      simp only [forall_drop hlt, this, false_and, decide_false]
theorem specEdges (n : Int) (es : List E) : Ep (fun k => spec_EdgesOk.f k n es) (· = decide (EsOk n es)) := by
  simp only [spec_EdgesOk.f]
  refine Ep.bind0 (l01In_eq _ _ _) ?_
  refine Ep.ite (fun h0 => ?_) (fun h0 => ?_)
  · have h0' : 1 ≤ n ∧ n ≤ 6 := by simpa using h0
    refine Ep.up ?_
    simp only [spec_EdgesOk.j0]
    refine Ep.ite (fun h1 => Ep.now ?_) (fun h1 => ?_)
    · have : ¬ EsOk n es := by
        have : (es.length : Int) > 12 := by simpa using h1
        unfold EsOk
        omega
      simp [this]
    · have hl : es.length ≤ 12 := by
        have : ¬ (es.length : Int) > 12 := by simpa using h1
        omega
      refine (specEdges_l0 n h0' es hl es.length 0 (by omega)).mono ?_
      rintro _ rfl
      rw [List.drop_zero]
      unfold EsOk
      simp only [h0'.1, h0'.2, hl, true_and]
  · have h0' : ¬ (1 ≤ n ∧ n ≤ 6) := by simpa using h0
    refine Ep.up ?_
    simp only [spec_EdgesOk.j0]
    refine Ep.pos (by simp) (Ep.now ?_)
    have : ¬ EsOk n es := by
      unfold EsOk
      omega
    simp [this]
theorem specHas_l0 (x : Int) (l : List Int) (hl : l.length ≤ 1048576) : ∀ (d i : Nat), i + d = l.length → Ep (fun k => spec_l02Has.l0 k x l (l.length : Int) (i : Int)) (· = decide (x ∈ l.drop i)) := by
  intro d
  induction d with
  | zero =>
    intro i hi
    refine Ep.up ?_
    simp only [spec_l02Has.l0]
    refine Ep.neg (by omega) (Ep.now ?_)
    rw [List.drop_of_length_le (by omega)]
    simp
  | succ d ih =>
    intro i hi
    have hlt : i < l.length := by omega
    refine Ep.up ?_
    simp only [spec_l02Has.l0]
    refine Ep.pos (by omega) (Ep.pos (by omega) (Ep.pos (by omega) ?_))
    rw [rd_get hlt, wrap_succ (by omega), List.drop_eq_getElem_cons hlt]
    refine Ep.ite (fun h => Ep.now ?_) (fun h => ?_)
    · simp only [List.mem_cons, h, true_or, decide_true]
    · refine (ih (i + 1) (by omega)).mono ?_
      rintro _ rfl
      have : ¬ x = l[i] := fun e => h e.symm
      simp only [List.mem_cons, this, false_or]
theorem specHas (l : List Int) (x : Int) (hl : l.length ≤ 1048576) : Ep (fun k => spec_l02Has.f k l x) (· = decide (x ∈ l)) := by
  have := specHas_l0 x l hl l.length 0 (by omega)
  simp only [spec_l02Has.f]
  exact this
/-- The queue between two edges. -/
structure BInv (es : List E) (n : Nat) (q : List Int) (a i : Nat) (u : Int) : Prop where
  ok : QOk es n q
  zero : (0 : Int) ∈ q
  done : ∀ x ∈ q.take a, ∀ b, Adj es x b → b ∈ q
  at_ : q[a]? = some u
  part : ∀ e ∈ es.take i, (e.f0 = u → e.f1 ∈ q) ∧ (e.f1 = u → e.f0 ∈ q)
theorem BInv.lt {es : List E} {n : Nat} {q : List Int} {a i : Nat} {u : Int} (h : BInv es n q a i u) : a < q.length := by
  apply Classical.byContradiction
  intro hc
  have := h.at_
  rw [List.getElem?_eq_none (by omega)] at this
  cases this
theorem BInv.len {es : List E} {n : Nat} {q : List Int} {a i : Nat} {u : Int} (h : BInv es n q a i u) : q.length ≤ n := nodup_len n q h.ok.1 (fun v hv => (h.ok.2 v hv).1)
theorem BInv.rd {es : List E} {n : Nat} {q : List Int} {a i : Nat} {u : Int} (h : BInv es n q a i u) : rd q (a : Int) = u := by
  rw [rd_nat, List.getD_eq_getElem?_getD, h.at_]
  rfl
/-- A neighbour is put behind. -/
theorem BInv.push {es : List E} {n : Nat} {q : List Int} {a i : Nat} {u v : Int} (hes : ∀ e ∈ es, EOk n e) (h : BInv es n q a i u) (hv : v ∉ q) (hadj : Adj es u v) : BInv es n (q ++ [v]) a i u where
  ok := by
    have hu : u ∈ q := List.mem_of_getElem? h.at_
    exact h.ok.push hv (EsOk.adj hes hadj) ((h.ok.2 u hu).2.tail hadj)
  zero := List.mem_append_left _ h.zero
  done := fun x hx b hb => by
    rw [List.take_append_of_le_length (by have := h.lt; omega)] at hx
    exact List.mem_append_left _ (h.done x hx b hb)
  at_ := by rw [List.getElem?_append_left h.lt]; exact h.at_
  part := fun e he => ⟨fun x => List.mem_append_left _ ((h.part e he).1 x), fun x => List.mem_append_left _ ((h.part e he).2 x)⟩
theorem BInv.next {es : List E} {n : Nat} {q : List Int} {a i : Nat} {u : Int} (h : BInv es n q a i u) (hi : i < es.length) (h0 : es[i].f0 = u → es[i].f1 ∈ q) (h1 : es[i].f1 = u → es[i].f0 ∈ q) : BInv es n q a (i + 1) u where
  ok := h.ok
  zero := h.zero
  done := h.done
  at_ := h.at_
  part := fun e he => by
    rw [List.take_succ_eq_append_getElem hi] at he
    rcases List.mem_append.1 he with he | he
    · exact h.part e he
    · rw [List.mem_singleton.1 he]
      exact ⟨h0, h1⟩
theorem specReach_l1 (n : Nat) (hn : n ≤ 6) (es : List E) (hl : es.length ≤ 12) (hes : ∀ e ∈ es, EOk n e) (a : Nat) (u : Int) {Q : List Int → Prop}
    (hk : ∀ q, BInv es n q a es.length u → Ep (fun k => spec_l02Reach.l0 k q ((a + 1 : Nat) : Int) (n : Int) es) Q) :
    ∀ (d i : Nat) (q : List Int), i + d = es.length → BInv es n q a i u → Ep (fun k => spec_l02Reach.l1 k q (a : Int) es (es.length : Int) (i : Int) (n : Int) es) Q := by
  intro d
  induction d with
  | zero =>
    intro i q hi hb
    refine Ep.up ?_
    simp only [spec_l02Reach.l1]
    refine Ep.neg (by omega) ?_
    have := hb.lt
    have := hb.len
    rw [wrap_succ (by omega)]
    have e : i = es.length := by omega
    subst e
    exact hk q hb
  | succ d ih =>
    intro i q hi hb
    have hlt : i < es.length := by omega
    have hal := hb.lt
    have hql := hb.len
    have he := hes es[i] (List.getElem_mem hlt)
    have heok := he
    unfold EOk at he
    have hadj : Adj es es[i].f0 es[i].f1 := ⟨es[i], List.getElem_mem hlt, .inl ⟨rfl, rfl⟩⟩
    -- the second test, behind the first
    have second : ∀ q', BInv es n q' a i u → (es[i].f0 = u → es[i].f1 ∈ q') → Ep (fun k => if (0 : Int) ≤ (a : Int) then (if (a : Int) < (q'.length : Int) then (if es[i].f1 = rd q' (a : Int) then ((spec_l02Has.f k q' es[i].f0).bind fun t => (if t = true then (spec_l02Reach.l1 k q' (a : Int) es (es.length : Int) (wrap64 ((i : Int) + 1)) (n : Int) es) else (if q'.length < 17592186044416 then (spec_l02Reach.l1 k (q' ++ [es[i].f0]) (a : Int) es (es.length : Int) (wrap64 ((i : Int) + 1)) (n : Int) es) else (none)))) else (spec_l02Reach.l1 k q' (a : Int) es (es.length : Int) (wrap64 ((i : Int) + 1)) (n : Int) es)) else (none)) else (none)) Q := by
      intro q' hb' h0
      have hal' := hb'.lt
      have hql' := hb'.len
      refine Ep.pos (by omega) (Ep.pos (by omega) ?_)
      rw [hb'.rd, wrap_succ (by omega)]
      refine Ep.ite (fun h1 => ?_) (fun h1 => ih (i + 1) q' (by omega) (hb'.next hlt h0 (fun x => absurd x h1)))
      refine Ep.bind (specHas q' _ (by omega)) ?_
      rintro _ rfl
      refine Ep.ite (fun h2 => ih (i + 1) q' (by omega) (hb'.next hlt h0 (fun _ => by simpa using h2))) (fun h2 => Ep.pos (by omega) ?_)
      have h2' : es[i].f0 ∉ q' := by simpa using h2
      have hb2 := hb'.push hes h2' (by rw [← h1]; exact hadj.symm)
      exact ih (i + 1) _ (by omega) (hb2.next hlt (fun x => List.mem_append_left _ (h0 x)) (fun _ => by simp))
    refine Ep.up ?_
    simp only [spec_l02Reach.l1]
    refine Ep.pos (by omega) (Ep.pos (by omega) (Ep.pos (by omega) (Ep.pos (by omega) (Ep.pos (by omega) ?_))))
    rw [rdE_get hlt, hb.rd]
    refine Ep.ite (fun h0 => ?_) (fun h0 => ?_)
    · refine Ep.bind (specHas q _ (by omega)) ?_
      rintro _ rfl
      refine Ep.up ?_
      simp only [spec_l02Reach.j2]
      refine Ep.ite (fun h1 => Ep.pos (by omega) ?_) (fun h1 => second q hb (fun _ => by simpa using h1))
      have h1' : es[i].f1 ∉ q := by simpa using h1
      refine Ep.bind0 rfl ?_
      exact second _ (hb.push hes h1' (by rw [← h0]; exact hadj)) (fun _ => by simp)
    · refine Ep.up ?_
      simp only [spec_l02Reach.j2]
      exact Ep.neg (by simp) (second q hb (fun x => absurd x h0))
theorem specReach_l0 (n : Nat) (hn : 1 ≤ n ∧ n ≤ 6) (es : List E) (hl : es.length ≤ 12) (hes : ∀ e ∈ es, EOk n e) : ∀ (d a : Nat) (q : List Int), a + d = 7 → a ≤ q.length → QOk es n q → (0 : Int) ∈ q → (∀ x ∈ q.take a, ∀ b, Adj es x b → b ∈ q) →
    Ep (fun k => spec_l02Reach.l0 k q (a : Int) (n : Int) es) (fun r => (r.length = n ↔ Joined n es) ∧ r.length ≤ 6) := by
  intro d
  induction d with
  | zero =>
    intro a q ha hq hok _ _
    have := nodup_len n q hok.1 (fun v hv => (hok.2 v hv).1)
    omega
  | succ d ih =>
    intro a q ha hq hok h0 hdone
    have hlen := nodup_len n q hok.1 (fun v hv => (hok.2 v hv).1)
    refine Ep.up ?_
    simp only [spec_l02Reach.l0]
    refine Ep.ite (fun hlt => ?_) (fun hge => Ep.now ?_)
    · have hlt' : a < q.length := by omega
      have hb : BInv es n q a 0 q[a] := ⟨hok, h0, hdone, List.getElem?_eq_getElem hlt', fun e he => by simp at he⟩
      refine specReach_l1 n hn.2 es hl hes a q[a] ?_ es.length 0 q (by omega) hb
      intro q' hb'
      refine ih (a + 1) q' (by omega) (by have := hb'.lt; omega) hb'.ok hb'.zero ?_
      intro x hx b hadj
      have hal := hb'.lt
      rw [List.take_succ_eq_append_getElem hal] at hx
      rcases List.mem_append.1 hx with hx | hx
      · exact hb'.done x hx b hadj
      · have hx' : x = q'[a] := List.mem_singleton.1 hx
        have hu : q'[a] = q[a] := by
          have := hb'.at_
          rw [List.getElem?_eq_getElem hal] at this
          exact Option.some.inj this
        obtain ⟨e, he, h⟩ := hadj
        have hp := hb'.part e (by rw [List.take_of_length_le (Nat.le_refl _)]; exact he)
        rcases h with ⟨x0, x1⟩ | ⟨x0, x1⟩
        · rw [← x1]
          exact hp.1 (by rw [x0, hx', hu])
        · rw [← x0]
          exact hp.2 (by rw [x1, hx', hu])
    · have hfull : q.take a = q := List.take_of_length_le (by omega)
      rw [hfull] at hdone
      exact ⟨queue_joined hn.1 hok h0 hdone, by omega⟩
theorem specReach (n : Nat) (hn : 1 ≤ n ∧ n ≤ 6) (es : List E) (hl : es.length ≤ 12) (hes : ∀ e ∈ es, EOk n e) : Ep (fun k => spec_l02Reach.f k (n : Int) es) (fun r => (r.length = n ↔ Joined n es) ∧ r.length ≤ 6) := by
  simp only [spec_l02Reach.f]
  refine specReach_l0 n hn es hl hes 7 0 [0] rfl (by simp) ⟨by simp, fun v hv => ?_⟩ (by simp) (fun x hx => by simp at hx)
  rw [List.mem_singleton.1 hv]
  exact ⟨⟨Int.le_refl _, by omega⟩, .refl⟩
/-- Sorted up to an edge. -/
def SortedTo (es : List E) (i : Nat) : Prop := ∀ j, (h : j + 1 < es.length) → j + 1 < i → leE es[j] es[j + 1]
theorem specGraph_l0 (n : Nat) (es : List E) (hes : EsOk n es) : ∀ (d i : Nat), i + d = es.length → SortedTo es i → Ep (fun k => spec_GraphOk.l0 k es (es.length : Int) (i : Int) (n : Int) es) (· = gOk n es) := by
  have hes' := hes
  obtain ⟨hn1, hn6, hl, hok⟩ := hes
  intro d
  induction d with
  | zero =>
    intro i hi hs
    refine Ep.up ?_
    simp only [spec_GraphOk.l0]
    refine Ep.neg (by omega) ?_
    refine Ep.bind (specReach n (by omega) es hl hok) ?_
    rintro r ⟨hr, _⟩
    refine Ep.now ?_
    have hsorted : Sorted es := fun j h => hs j h (by omega)
    have hiff : GOk n es ↔ Joined n es := ⟨fun h => h.2.2, fun h => ⟨hes', hsorted, h⟩⟩
    by_cases hj : Joined n es
    · have : gOk n es = true := gOk_iff.2 (hiff.2 hj)
      rw [this, hr.2 hj]
      simp
    · have : gOk n es = false := by
        cases hg : gOk n es with
        | false => rfl
        | true => exact absurd (hiff.1 (gOk_iff.1 hg)) hj
      rw [this]
      have hne : r.length ≠ n := fun e => hj (hr.1 e)
      simp
      omega
  | succ d ih =>
    intro i hi hs
    have hlt : i < es.length := by omega
    have hbad : ∀ j, i = j + 1 → (hj : j < es.length) → ¬ leE es[j] es[i] → gOk n es = false := by
      intro j hij hj hx
      subst hij
      cases hg : gOk n es with
      | false => rfl
      | true => exact absurd ((gOk_iff.1 hg).2.1 j hlt) hx
    have hgood : (∀ j, i = j + 1 → (hj : j < es.length) → leE es[j] es[i]) → Ep (fun k => spec_GraphOk.l0 k es (es.length : Int) (wrap64 ((i : Int) + 1)) (n : Int) es) (· = gOk n es) := by
      intro hx
      rw [wrap_succ (by omega)]
      refine ih (i + 1) (by omega) ?_
      intro j h hji
      by_cases e : j + 1 < i
      · exact hs j h e
      · have e' : i = j + 1 := by omega
        have := hx j e' (by omega)
        subst e'
        exact this
    refine Ep.up ?_
    simp only [spec_GraphOk.l0]
    refine Ep.pos (by omega) (Ep.pos (by omega) (Ep.pos (by omega) ?_))
    refine Ep.ite (fun hpos => ?_) (fun hz => hgood (fun j hij _ => by omega))
    obtain ⟨j, rfl⟩ : ∃ j, i = j + 1 := ⟨i - 1, by omega⟩
    have hw : wrap64 (((j + 1 : Nat) : Int) - 1) = (j : Int) := by rw [wrap_id (by omega) (by omega)]; omega
    rw [hw, rdE_get hlt, rdE_get (show j < es.length by omega)]
    refine Ep.pos (by omega) (Ep.pos (by omega) ?_)
    refine Ep.ite (fun h0 => Ep.now ?_) (fun h0 => ?_)
    · exact (hbad j rfl (by omega) (by unfold leE; omega)).symm
    · refine Ep.ite (fun h1 => ?_) (fun h1 => hgood (fun j' hij _ => ?_))
      · refine Ep.ite (fun h2 => Ep.now ?_) (fun h2 => hgood (fun j' hij _ => ?_))
        · exact (hbad j rfl (by omega) (by unfold leE; omega)).symm
        · obtain rfl : j' = j := by omega
          unfold leE
          omega
      · obtain rfl : j' = j := by omega
        unfold leE
        omega
theorem specGraph (n : Int) (es : List E) : Ep (fun k => spec_GraphOk.f k n es) (· = gOk n es) := by
  simp only [spec_GraphOk.f]
  refine Ep.bind (specEdges n es) ?_
  rintro _ rfl
  refine Ep.ite (fun h => ?_) (fun h => Ep.now ?_)
  · have h' : EsOk n es := by simpa using h
    have h1 := h'.1
    obtain ⟨m, rfl⟩ := Int.eq_ofNat_of_zero_le (a := n) (by omega)
    exact specGraph_l0 m es h' es.length 0 (by omega) (fun j h hj => by omega)
  · have h' : ¬ EsOk n es := by simpa using h
    cases hg : gOk n es with
    | false => rfl
    | true => exact absurd (gOk_iff.1 hg).1 h'
end Go.Proofs.Yteokcodadpjepaa.Cf
end

section
namespace Go.Proofs.Yteokcodadpjepaa.Cf
set_option linter.unusedVariables false
set_option linter.unusedSimpArgs false
open Go.RowKit Go.Proofs.YteokcodadpjepaaW.PrintWords Go.Proofs.YteokcodadpjepaaW.PrintMore Go.Proofs.Yteokcodadpjepaa.P
theorem within_eq (a b c : Int) : impl_within.f a b c = some (decide (b ≤ a ∧ a ≤ c)) := by
  unfold impl_within.f
  by_cases h : a ≥ b
  · rw [if_pos h]
    have : (b ≤ a ∧ a ≤ c) ↔ a ≤ c := ⟨fun x => x.2, fun x => ⟨h, x⟩⟩
    simp only [this]
  · rw [if_neg h]
    have : ¬ (b ≤ a ∧ a ≤ c) := fun x => h x.1
    simp only [this, decide_false]
theorem implEdges_l0 (n : Int) (es : List E) (hl : es.length ≤ 12) : ∀ (d i : Nat), i + d = es.length → Ep (fun k => impl_EdgesOk.l0 k es (es.length : Int) (i : Int) n es) (· = decide (∀ e ∈ es.drop i, EOk n e)) := by
  intro d
  induction d with
  | zero =>
    intro i hi
    refine Ep.up ?_
    simp only [impl_EdgesOk.l0]
    refine Ep.neg (by omega) (Ep.now ?_)
    rw [List.drop_of_length_le (by omega)]
    simp
  | succ d ih =>
    intro i hi
    have hlt : i < es.length := by omega
    have no : ¬ EOk n es[i] → false = decide (∀ e ∈ es.drop i, EOk n e) := fun h => by simp only [forall_drop hlt, h, false_and, decide_false]
    refine Ep.up ?_
    simp only [impl_EdgesOk.l0]
    refine Ep.pos (by omega) (Ep.pos (by omega) (Ep.pos (by omega) ?_))
    rw [rdE_get hlt]
    refine Ep.ite (fun h => Ep.now (no (by unfold EOk; omega))) (fun h0 => ?_)
    refine Ep.ite (fun h => Ep.now (no (by unfold EOk; omega))) (fun h1 => ?_)
    refine Ep.ite (fun h => Ep.now (no (by unfold EOk; omega))) (fun h2 => ?_)
    rw [wrap_succ (by omega)]
    refine (ih (i + 1) (by omega)).mono ?_
    rintro _ rfl
    have : EOk n es[i] := by unfold EOk; omega
    simp only [forall_drop hlt, this, true_and]
theorem implEdges (n : Int) (es : List E) : Ep (fun k => impl_EdgesOk.f k n es) (· = decide (EsOk n es)) := by
  simp only [impl_EdgesOk.f]
  refine Ep.bind0 (within_eq _ _ _) ?_
  refine Ep.ite (fun h0 => ?_) (fun h0 => ?_)
  · have h0' : 1 ≤ n ∧ n ≤ 6 := by simpa using h0
    refine Ep.up ?_
    simp only [impl_EdgesOk.j0]
    refine Ep.ite (fun h1 => Ep.now ?_) (fun h1 => ?_)
    · have : ¬ EsOk n es := by
        have : (es.length : Int) > 12 := by simpa using h1
        unfold EsOk
        omega
      simp [this]
    · have hl : es.length ≤ 12 := by
        have : ¬ (es.length : Int) > 12 := by simpa using h1
        omega
      refine (implEdges_l0 n es hl es.length 0 (by omega)).mono ?_
      rintro _ rfl
      rw [List.drop_zero]
      unfold EsOk
      simp only [h0'.1, h0'.2, hl, true_and]
  · have h0' : ¬ (1 ≤ n ∧ n ≤ 6) := by simpa using h0
    refine Ep.up ?_
    simp only [impl_EdgesOk.j0]
    refine Ep.pos (by simp) (Ep.now ?_)
    have : ¬ EsOk n es := by
      unfold EsOk
      omega
    simp [this]
theorem wraps_i64 (n : Int) (h0 : 0 ≤ n) (h1 : n < 2 ^ 62) : IntKind.i64.wrap n = n := by rw [IntKind.wrap_i64]; omega
theorem or_nat {a b : Nat} (ha : a < 2 ^ 62) (hb : b < 2 ^ 62) : Go.bits .or .i64 (a : Int) (b : Int) = ((a ||| b : Nat) : Int) := (bits_nat .i64 62 (by decide) wraps_i64 a b ha hb).2
theorem and_nat {a b : Nat} (ha : a < 2 ^ 62) (hb : b < 2 ^ 62) : Go.bits .and .i64 (a : Int) (b : Int) = ((a &&& b : Nat) : Int) := (bits_nat .i64 62 (by decide) wraps_i64 a b ha hb).1
theorem shl_nat {a : Nat} (ha : a < 62) : shl .i64 1 (a : Int) = ((2 ^ a : Nat) : Int) := by
  unfold shl
  have : (2 : Int) ^ a < 2 ^ 62 := by
    have := Nat.pow_lt_pow_right (a := 2) (by decide) ha
    exact_mod_cast this
  rw [Int.toNat_natCast, Nat.min_eq_left (by show a ≤ 64; omega), Int.one_mul, wraps_i64 _ (by have := Int.pow_nonneg (n := 2) (m := a) (by decide); omega) this]
  simp
theorem shr_nat {m a : Nat} (ha : a < 62) : shr .i64 (m : Int) (a : Int) = ((m / 2 ^ a : Nat) : Int) := by
  unfold shr
  rw [Int.toNat_natCast, Nat.min_eq_left (by show a ≤ 64; omega)]
  simp
/-- The test of a bit. -/
theorem bit_test {m : Nat} (hm : m < 2 ^ 62) {a : Nat} (ha : a < 62) : Go.bits .and .i64 (shr .i64 (m : Int) (a : Int)) 1 = 1 ↔ m.testBit a = true := by
  rw [shr_nat ha, show (1 : Int) = ((1 : Nat) : Int) from rfl, and_nat (Nat.lt_of_le_of_lt (Nat.div_le_self _ _) hm) (by decide)]
  rw [Nat.testBit_eq_decide_div_mod_eq, Nat.and_one_is_mod]
  generalize m / 2 ^ a = x
  simp only [decide_eq_true_eq]
  omega
theorem bit_cases {m a : Nat} : m.testBit a = true ∨ m.testBit a = false := by cases m.testBit a <;> simp
theorem step_lt {m : Nat} {e : E} {n : Int} (hm : m < 2 ^ 6) (he : EOk n e) (hn : n ≤ 6) : stepM m e < 2 ^ 6 := by
  unfold EOk at he
  unfold stepM
  split
  · apply Nat.or_lt_two_pow hm
    apply Nat.or_lt_two_pow
    · exact Nat.pow_lt_pow_right (by decide) (by omega)
    · exact Nat.pow_lt_pow_right (by decide) (by omega)
  · exact hm
theorem round_lt {n : Int} (hn : n ≤ 6) : ∀ (es : List E), (∀ e ∈ es, EOk n e) → ∀ {m : Nat}, m < 2 ^ 6 → roundM es m < 2 ^ 6 := by
  intro es
  induction es with
  | nil => intro _ m h; exact h
  | cons e r ih => intro hes m h; exact ih (fun x hx => hes x (List.mem_cons_of_mem _ hx)) (step_lt h (hes e List.mem_cons_self) hn)
open Classical in
noncomputable def joinedB (n : Int) (es : List E) : Bool := decide (Joined n es)
theorem joinedB_iff {n : Int} {es : List E} : joinedB n es = true ↔ Joined n es := by unfold joinedB; simp
theorem implConn_l1 (n : Int) (hn : n ≤ 6) (es : List E) (hl : es.length ≤ 1048576) (hes : ∀ e ∈ es, EOk n e) (x8 x9 : Int) {Q : Bool → Prop} (m0 : Nat)
    (hk : Ep (fun k => impl_connected.l0 k n es ((roundM es m0 : Nat) : Int) x8 (wrap64 (x9 + 1))) Q) :
    ∀ (d i : Nat) (m : Nat), i + d = es.length → m < 2 ^ 6 → roundM (es.drop i) m = roundM es m0 → Ep (fun k => impl_connected.l1 k n es (m : Int) x8 x9 es (es.length : Int) (i : Int)) Q := by
  intro d
  induction d with
  | zero =>
    intro i m hi hm hr
    refine Ep.up ?_
    simp only [impl_connected.l1]
    refine Ep.neg (by omega) ?_
    rw [List.drop_of_length_le (by omega)] at hr
    have e : m = roundM es m0 := hr
    rw [e]
    exact hk
  | succ d ih =>
    intro i m hi hm hr
    have hlt : i < es.length := by omega
    have hek := hes es[i] (List.getElem_mem hlt)
    have he := hek
    unfold EOk at he
    rw [List.drop_eq_getElem_cons hlt] at hr
    have hr' : roundM (es.drop (i + 1)) (stepM m es[i]) = roundM es m0 := hr
    have hst := step_lt hm hek hn
    obtain ⟨a, ha⟩ := Int.eq_ofNat_of_zero_le he.1
    obtain ⟨b, hb⟩ := Int.eq_ofNat_of_zero_le (a := es[i].f1) (by omega)
    have ha6 : a < 6 := by omega
    have hb6 : b < 6 := by omega
    have hm62 : m < 2 ^ 62 := by omega
    have pa : 2 ^ a < 2 ^ 6 := Nat.pow_lt_pow_right (by decide) ha6
    have pb : 2 ^ b < 2 ^ 6 := Nat.pow_lt_pow_right (by decide) hb6
    have pab : 2 ^ a ||| 2 ^ b < 2 ^ 6 := Nat.or_lt_two_pow pa pb
    have hset : Go.bits .or .i64 (m : Int) (Go.bits .or .i64 (shl .i64 1 (a : Int)) (shl .i64 1 (b : Int))) = ((m ||| (2 ^ a ||| 2 ^ b) : Nat) : Int) := by
      rw [shl_nat (by omega), shl_nat (by omega), or_nat (by omega) (by omega), or_nat (by omega) (by omega)]
    have hstep : (m.testBit a || m.testBit b) = true → stepM m es[i] = m ||| (2 ^ a ||| 2 ^ b) := by
      intro h
      unfold stepM
      rw [ha, hb]
      simp only [Int.ofNat_eq_natCast, Int.toNat_natCast]
      rw [if_pos h]
    have hstay : (m.testBit a || m.testBit b) = false → stepM m es[i] = m := by
      intro h
      unfold stepM
      rw [ha, hb]
      simp only [Int.ofNat_eq_natCast, Int.toNat_natCast]
      rw [if_neg (by rw [h]; simp)]
    refine Ep.up ?_
    simp only [impl_connected.l1]
    refine Ep.pos (by omega) (Ep.pos (by omega) (Ep.pos (by omega) ?_))
    rw [rdE_get hlt, ha, hb]
    refine Ep.pos (by omega) ?_
    rw [hset, wrap_succ (by omega)]
    refine Ep.ite (fun h => Ep.pos (by omega) ?_) (fun h => Ep.pos (by omega) (Ep.ite (fun h2 => ?_) (fun h2 => ?_)))
    · have := (bit_test hm62 (by omega)).1 h
      rw [← hstep (by rw [this]; rfl)]
      exact ih (i + 1) _ (by omega) hst hr'
    · have := (bit_test hm62 (by omega)).1 h2
      rw [← hstep (by rw [this]; simp)]
      exact ih (i + 1) _ (by omega) hst hr'
    · have h1 : m.testBit a = false := by
        rcases bit_cases (m := m) (a := a) with x | x
        · exact absurd ((bit_test hm62 (by omega)).2 x) h
        · exact x
      have h3 : m.testBit b = false := by
        rcases bit_cases (m := m) (a := b) with x | x
        · exact absurd ((bit_test hm62 (by omega)).2 x) h2
        · exact x
      have := hstay (by rw [h1, h3]; rfl)
      rw [this] at hr'
      exact ih (i + 1) _ (by omega) hm hr'
theorem implConn_l0 (n : Nat) (hn : 1 ≤ n ∧ n ≤ 6) (es : List E) (hl : es.length ≤ 1048576) (hes : ∀ e ∈ es, EOk n e) : ∀ (d i m : Nat), i + d = n → m < 2 ^ 6 → timesM es d m = timesM es n 1 → Ep (fun k => impl_connected.l0 k (n : Int) es (m : Int) (n : Int) (i : Int)) (· = joinedB n es) := by
  intro d
  induction d with
  | zero =>
    intro i m hi hm hr
    refine Ep.up ?_
    simp only [impl_connected.l0]
    refine Ep.neg (by omega) (Ep.pos (by omega) (Ep.now ?_))
    have hr' : m = timesM es n 1 := hr
    have hp : 1 ≤ 2 ^ n := Nat.one_le_two_pow
    have hp2 : 2 ^ n ≤ 2 ^ 6 := Nat.pow_le_pow_right (by decide) hn.2
    rw [shl_nat (by omega), wrap_id (by omega) (by omega)]
    rw [Bool.eq_iff_iff, joinedB_iff, ← times_joined hn.1 hes, ← hr']
    simp only [beq_iff_eq]
    omega
  | succ d ih =>
    intro i m hi hm hr
    refine Ep.up ?_
    simp only [impl_connected.l0]
    refine Ep.pos (by omega) ?_
    refine implConn_l1 n (by omega) es hl hes _ _ m ?_ es.length 0 m (by omega) hm (by rw [List.drop_zero])
    rw [wrap_succ (by omega)]
    exact ih (i + 1) _ (by omega) (round_lt (by omega) es hes hm) hr
theorem implConn (n : Nat) (hn : 1 ≤ n ∧ n ≤ 6) (es : List E) (hl : es.length ≤ 1048576) (hes : ∀ e ∈ es, EOk n e) : Ep (fun k => impl_connected.f k (n : Int) es) (· = joinedB n es) := by
  simp only [impl_connected.f]
  exact implConn_l0 n hn es hl hes n 0 1 (by omega) (by decide) rfl
end Go.Proofs.Yteokcodadpjepaa.Cf
end

section
namespace Go.Proofs.Yteokcodadpjepaa.P
open Go.RowKit Go.Proofs.YteokcodadpjepaaW.PrintWords Go.Proofs.YteokcodadpjepaaW.PrintLast Go.Proofs.YteokcodadpjepaaW.PrintMore
attribute [local go_sem] max2_int min2_int max_two min_two max_three min_three max_four min_four
set_option linter.unusedVariables false
set_option linter.unusedSimpArgs false
def cmp_isNaN_int.f (a0 : Int) : Option (Bool) := some (a0 != a0)
set_option maxHeartbeats 8000000 in
set_option maxRecDepth 100000 in
theorem cmp_isNaN_int.calls (a0 : Int) (r : Bool) (w : World) (h : cmp_isNaN_int.f a0 = some r) :
  Calls Try.prog 121 #[.int .i64 a0] w fun e w' => e = .returned (.bool r) ∧ Drawn0 w w' := by
 have H : (some (a0 != a0)) = some r := h; clear h; obtain rfl := Option.some.inj H; go_enter Try.func121, Try.ntmps121; go_wp2; go_ret; exact ⟨zz7, by repeat (first | exact Drawn0.refl _ | apply Drawn0.step)⟩
def cmp_Compare_int.f (a0 : Int) (a1 : Int) : Option (Int) := (cmp_isNaN_int.f a0).bind fun t101 => ((cmp_isNaN_int.f a1).bind fun t102 => (if t101 = true then (if t102 = true then (some 0) else (some (-1))) else (if t102 = true then (some 1) else (if a0 < a1 then (some (-1)) else (if a0 > a1 then (some 1) else (some 0))))))
set_option maxHeartbeats 8000000 in
set_option maxRecDepth 100000 in
theorem cmp_Compare_int.calls (a0 : Int) (a1 : Int) (r : Int) (w : World) (h : cmp_Compare_int.f a0 a1 = some r) :
  Calls Try.prog 114 #[.int .i64 a0, .int .i64 a1] w fun e w' => e = .returned (.int .i64 r) ∧ Drawn0 w w' := by
 have H : ((cmp_isNaN_int.f a0).bind fun t101 => ((cmp_isNaN_int.f a1).bind fun t102 => (if t101 = true then (if t102 = true then (some 0) else (some (-1))) else (if t102 = true then (some 1) else (if a0 < a1 then (some (-1)) else (if a0 > a1 then (some 1) else (some 0))))))) = some r := h; clear h; replace H := Option.bind_eq_some_iff.mp H; obtain ⟨t101, A30, H⟩ := H; (try dsimp only at H); have A3 := Aside0.mk A30; clear A30; replace H := Option.bind_eq_some_iff.mp H; obtain ⟨t102, A40, H⟩ := H; (try dsimp only at H); have A4 := Aside0.mk A40; clear A40; by_cases c5 : t101 = true
 ·subst c5; rw [if_pos rfl] at H; by_cases c6 : t102 = true
  ·subst c6; rw [if_pos rfl] at H; obtain rfl := Option.some.inj H; go_enter Try.func114, Try.ntmps114; (go_wp2_with (first | ((with_reducible refine gate_callee (f := 121) rfl ?_); refine goesL_ (some 8) rfl rfl Try.func121 (by kernel_rfl) rfl #[.int .i64 a0] rfl zz3 ?_; (with_reducible refine (cmp_isNaN_int.calls a0 true _ A3.out).mono ?_); rintro e w' ⟨rfl, ⟨nd, rfl⟩⟩; refine ⟨_, rfl, ?_⟩) | ((with_reducible refine gate_callee (f := 121) rfl ?_); refine goesL_ (some 10) rfl rfl Try.func121 (by kernel_rfl) rfl #[.int .i64 a1] rfl zz3 ?_; (with_reducible refine (cmp_isNaN_int.calls a1 true _ A4.out).mono ?_); rintro e w' ⟨rfl, ⟨nd, rfl⟩⟩; refine ⟨_, rfl, ?_⟩))); go_ret; exact ⟨zz7, by repeat (first | exact Drawn0.refl _ | apply Drawn0.step)⟩
  replace c6 := Bool.eq_false_iff.mpr c6; subst c6; rw [if_neg (show ¬ (false = true) by decide)] at H; obtain rfl := Option.some.inj H; go_enter Try.func114, Try.ntmps114; (go_wp2_with (first | ((with_reducible refine gate_callee (f := 121) rfl ?_); refine goesL_ (some 8) rfl rfl Try.func121 (by kernel_rfl) rfl #[.int .i64 a0] rfl zz3 ?_; (with_reducible refine (cmp_isNaN_int.calls a0 true _ A3.out).mono ?_); rintro e w' ⟨rfl, ⟨nd, rfl⟩⟩; refine ⟨_, rfl, ?_⟩) | ((with_reducible refine gate_callee (f := 121) rfl ?_); refine goesL_ (some 10) rfl rfl Try.func121 (by kernel_rfl) rfl #[.int .i64 a1] rfl zz3 ?_; (with_reducible refine (cmp_isNaN_int.calls a1 false _ A4.out).mono ?_); rintro e w' ⟨rfl, ⟨nd, rfl⟩⟩; refine ⟨_, rfl, ?_⟩))); go_ret; exact ⟨zz7, by repeat (first | exact Drawn0.refl _ | apply Drawn0.step)⟩
 replace c5 := Bool.eq_false_iff.mpr c5; subst c5; rw [if_neg (show ¬ (false = true) by decide)] at H; by_cases c7 : t102 = true
 ·subst c7; rw [if_pos rfl] at H; obtain rfl := Option.some.inj H; go_enter Try.func114, Try.ntmps114; (go_wp2_with (first | ((with_reducible refine gate_callee (f := 121) rfl ?_); refine goesL_ (some 8) rfl rfl Try.func121 (by kernel_rfl) rfl #[.int .i64 a0] rfl zz3 ?_; (with_reducible refine (cmp_isNaN_int.calls a0 false _ A3.out).mono ?_); rintro e w' ⟨rfl, ⟨nd, rfl⟩⟩; refine ⟨_, rfl, ?_⟩) | ((with_reducible refine gate_callee (f := 121) rfl ?_); refine goesL_ (some 10) rfl rfl Try.func121 (by kernel_rfl) rfl #[.int .i64 a1] rfl zz3 ?_; (with_reducible refine (cmp_isNaN_int.calls a1 true _ A4.out).mono ?_); rintro e w' ⟨rfl, ⟨nd, rfl⟩⟩; refine ⟨_, rfl, ?_⟩))); go_ret; exact ⟨zz7, by repeat (first | exact Drawn0.refl _ | apply Drawn0.step)⟩
 replace c7 := Bool.eq_false_iff.mpr c7; subst c7; rw [if_neg (show ¬ (false = true) by decide)] at H; by_cases c8 : a0 < a1
 ·rw [if_pos c8] at H; have c8b0 := decide_eq_true c8; clear c8; obtain rfl := Option.some.inj H; go_enter Try.func114, Try.ntmps114; (go_wp2_with (first | ((with_reducible refine gate_callee (f := 121) rfl ?_); refine goesL_ (some 8) rfl rfl Try.func121 (by kernel_rfl) rfl #[.int .i64 a0] rfl zz3 ?_; (with_reducible refine (cmp_isNaN_int.calls a0 false _ A3.out).mono ?_); rintro e w' ⟨rfl, ⟨nd, rfl⟩⟩; refine ⟨_, rfl, ?_⟩) | ((with_reducible refine gate_callee (f := 121) rfl ?_); refine goesL_ (some 10) rfl rfl Try.func121 (by kernel_rfl) rfl #[.int .i64 a1] rfl zz3 ?_; (with_reducible refine (cmp_isNaN_int.calls a1 false _ A4.out).mono ?_); rintro e w' ⟨rfl, ⟨nd, rfl⟩⟩; refine ⟨_, rfl, ?_⟩))); go_ret; exact ⟨zz7, by repeat (first | exact Drawn0.refl _ | apply Drawn0.step)⟩
 rw [if_neg c8] at H; have c8b0 := decide_eq_false c8; clear c8; by_cases c9 : a0 > a1
 ·rw [if_pos c9] at H; have c9b0 : decide (a1 < a0) = true := decide_eq_true c9; clear c9; obtain rfl := Option.some.inj H; go_enter Try.func114, Try.ntmps114; (go_wp2_with (first | ((with_reducible refine gate_callee (f := 121) rfl ?_); refine goesL_ (some 8) rfl rfl Try.func121 (by kernel_rfl) rfl #[.int .i64 a0] rfl zz3 ?_; (with_reducible refine (cmp_isNaN_int.calls a0 false _ A3.out).mono ?_); rintro e w' ⟨rfl, ⟨nd, rfl⟩⟩; refine ⟨_, rfl, ?_⟩) | ((with_reducible refine gate_callee (f := 121) rfl ?_); refine goesL_ (some 10) rfl rfl Try.func121 (by kernel_rfl) rfl #[.int .i64 a1] rfl zz3 ?_; (with_reducible refine (cmp_isNaN_int.calls a1 false _ A4.out).mono ?_); rintro e w' ⟨rfl, ⟨nd, rfl⟩⟩; refine ⟨_, rfl, ?_⟩))); go_ret; exact ⟨zz7, by repeat (first | exact Drawn0.refl _ | apply Drawn0.step)⟩
 rw [if_neg c9] at H; have c9b0 : decide (a1 < a0) = false := decide_eq_false c9; clear c9; obtain rfl := Option.some.inj H; go_enter Try.func114, Try.ntmps114; (go_wp2_with (first | ((with_reducible refine gate_callee (f := 121) rfl ?_); refine goesL_ (some 8) rfl rfl Try.func121 (by kernel_rfl) rfl #[.int .i64 a0] rfl zz3 ?_; (with_reducible refine (cmp_isNaN_int.calls a0 false _ A3.out).mono ?_); rintro e w' ⟨rfl, ⟨nd, rfl⟩⟩; refine ⟨_, rfl, ?_⟩) | ((with_reducible refine gate_callee (f := 121) rfl ?_); refine goesL_ (some 10) rfl rfl Try.func121 (by kernel_rfl) rfl #[.int .i64 a1] rfl zz3 ?_; (with_reducible refine (cmp_isNaN_int.calls a1 false _ A4.out).mono ?_); rintro e w' ⟨rfl, ⟨nd, rfl⟩⟩; refine ⟨_, rfl, ?_⟩))); go_ret; exact ⟨zz7, by repeat (first | exact Drawn0.refl _ | apply Drawn0.step)⟩
def impl_compareEdges.f (a0_0 : Int) (a0_1 : Int) (a1_0 : Int) (a1_1 : Int) : Option (Int) := (cmp_Compare_int.f a0_0 a1_0).bind fun t103 => (if t103 = 0 then ((cmp_Compare_int.f a0_1 a1_1).bind fun t104 => (some t104)) else (some t103))
set_option maxHeartbeats 8000000 in
set_option maxRecDepth 100000 in
theorem impl_compareEdges.calls (a0_0 : Int) (a0_1 : Int) (a1_0 : Int) (a1_1 : Int) (r : Int) (w : World) (h : impl_compareEdges.f a0_0 a0_1 a1_0 a1_1 = some r) :
  Calls Try.prog 90 #[.agg #[.int .i64 a0_0, .int .i64 a0_1], .agg #[.int .i64 a1_0, .int .i64 a1_1]] w fun e w' => e = .returned (.int .i64 r) ∧ Below w.heap.size w w' := by
 have hu74 := Try.underlying74; have HB := Aside0.mk (Below.refl w.heap.size w); have H : ((cmp_Compare_int.f a0_0 a1_0).bind fun t103 => (if t103 = 0 then ((cmp_Compare_int.f a0_1 a1_1).bind fun t104 => (some t104)) else (some t103))) = some r := h; clear h; replace H := Option.bind_eq_some_iff.mp H; obtain ⟨t103, A30, H⟩ := H; (try dsimp only at H); have A3 := Aside0.mk A30; clear A30; by_cases c4 : t103 = 0; rotate_left
 ·rw [if_neg c4] at H; have c4b0 : (t103 == 0) = false := beq_eq_false_iff_ne.mpr c4; have c4b1 : (t103 != 0) = true := bne_iff_ne.mpr c4; obtain rfl := Option.some.inj H; go_enter Try.func90, Try.ntmps90; (go_wp2_with (first | ((with_reducible refine gate_dst (N := 2) rfl ?_); refine box_event ?hg (N := 2) ?hd (cs := #[.int .i64 a0_0, .int .i64 a0_1]) (t := 74) ?hr ?_; (case hd => rfl); (case hg => rfl); (case hr => exact zz9); intro gb101 hg w11 hbox hb; have n_ := zA4 (below_step zz2 hb) hbox (zz12 : w.heap.size ≤ gb101) (zz12 : w.heap.size ≤ gb101); clear HB; obtain ⟨HB, BK101, GW101, GE101⟩ := n_; clear hb hbox hg) | ((with_reducible refine gate_dst (N := 3) rfl ?_); refine box_event ?hg (N := 3) ?hd (cs := #[.int .i64 a1_0, .int .i64 a1_1]) (t := 74) ?hr ?_; (case hd => rfl); (case hg => rfl); (case hr => exact zz9); intro gb102 hg w12 hbox hb; have n_ := zA7 (blk_below (g := gb101) (o := .cells #[.int .i64 a0_0, .int .i64 a0_1] 74 (0, 0)) zz1 hb) (below_step zz0 hb) hbox (zz15 : w.heap.size ≤ gb102) (zz15 : w.heap.size ≤ gb102) (zz41 : gb101 ≠ gb102) (zz42 : gb102 ≠ gb101); clear BK101 HB; obtain ⟨BK101, HB, BK102, GW102, GE102, NB101_102, NB102_101⟩ := n_; clear hb hbox hg; have hnb13 := NB101_102.out; have hnc13 := NB102_101.out; have hcz14_0 := zC20 BK101; have hcz14_1 := zC21 BK101; have hfz14_0 := blk_frozen BK101.out 0; have hfz14_1 := blk_frozen BK101.out 1; have hcz15_0 := zC20 BK102; have hcz15_1 := zC21 BK102; have hfz15_0 := blk_frozen BK102.out 0; have hfz15_1 := blk_frozen BK102.out 1) | ((with_reducible refine gate_callee (f := 114) rfl ?_); refine goesL_ (some 10) rfl rfl Try.func114 (by kernel_rfl) rfl #[.int .i64 a0_0, .int .i64 a1_0] rfl zz3 ?_; (with_reducible refine (cmp_Compare_int.calls a0_0 a1_0 t103 _ A3.out).mono ?_); rintro e w' ⟨rfl, ⟨nd, rfl⟩⟩; refine ⟨_, rfl, ?_⟩))); go_ret; exact ⟨zz6, zz14⟩
 rw [if_pos c4] at H; have c4b0 : (t103 == 0) = true := beq_iff_eq.mpr c4; have c4b1 : (t103 != 0) = false := bne_eq_false_iff_eq.mpr c4; clear c4; replace H := Option.bind_eq_some_iff.mp H; obtain ⟨t104, A50, H⟩ := H; (try dsimp only at H); have A5 := Aside0.mk A50; clear A50; obtain rfl := Option.some.inj H; go_enter Try.func90, Try.ntmps90; (go_wp2_with (first | ((with_reducible refine gate_dst (N := 2) rfl ?_); refine box_event ?hg (N := 2) ?hd (cs := #[.int .i64 a0_0, .int .i64 a0_1]) (t := 74) ?hr ?_; (case hd => rfl); (case hg => rfl); (case hr => exact zz9); intro gb101 hg w6 hbox hb; have n_ := zA4 (below_step zz2 hb) hbox (zz12 : w.heap.size ≤ gb101) (zz12 : w.heap.size ≤ gb101); clear HB; obtain ⟨HB, BK101, GW101, GE101⟩ := n_; clear hb hbox hg) | ((with_reducible refine gate_dst (N := 3) rfl ?_); refine box_event ?hg (N := 3) ?hd (cs := #[.int .i64 a1_0, .int .i64 a1_1]) (t := 74) ?hr ?_; (case hd => rfl); (case hg => rfl); (case hr => exact zz9); intro gb102 hg w7 hbox hb; have n_ := zA7 (blk_below (g := gb101) (o := .cells #[.int .i64 a0_0, .int .i64 a0_1] 74 (0, 0)) zz1 hb) (below_step zz0 hb) hbox (zz15 : w.heap.size ≤ gb102) (zz15 : w.heap.size ≤ gb102) (zz41 : gb101 ≠ gb102) (zz42 : gb102 ≠ gb101); clear BK101 HB; obtain ⟨BK101, HB, BK102, GW102, GE102, NB101_102, NB102_101⟩ := n_; clear hb hbox hg; have hnb8 := NB101_102.out; have hnc8 := NB102_101.out; have hcz9_0 := zC20 BK101; have hcz9_1 := zC21 BK101; have hfz9_0 := blk_frozen BK101.out 0; have hfz9_1 := blk_frozen BK101.out 1; have hcz10_0 := zC20 BK102; have hcz10_1 := zC21 BK102; have hfz10_0 := blk_frozen BK102.out 0; have hfz10_1 := blk_frozen BK102.out 1) | ((with_reducible refine gate_callee (f := 114) rfl ?_); refine goesL_ (some 10) rfl rfl Try.func114 (by kernel_rfl) rfl #[.int .i64 a0_0, .int .i64 a1_0] rfl zz3 ?_; (with_reducible refine (cmp_Compare_int.calls a0_0 a1_0 t103 _ A3.out).mono ?_); rintro e w' ⟨rfl, ⟨nd, rfl⟩⟩; refine ⟨_, rfl, ?_⟩) | ((with_reducible refine gate_callee (f := 114) rfl ?_); refine goesL_ (some 18) rfl rfl Try.func114 (by kernel_rfl) rfl #[.int .i64 a0_1, .int .i64 a1_1] rfl zz3 ?_; (with_reducible refine (cmp_Compare_int.calls a0_1 a1_1 t104 _ A5.out).mono ?_); rintro e w' ⟨rfl, ⟨nd, rfl⟩⟩; refine ⟨_, rfl, ?_⟩))); go_ret; exact ⟨zz6, zz14⟩
end Go.Proofs.Yteokcodadpjepaa.P
end

section
namespace Go.Proofs.Yteokcodadpjepaa.Cf
set_option linter.unusedVariables false
set_option linter.unusedSimpArgs false
open Go.RowKit Go.Proofs.YteokcodadpjepaaW.PrintWords Go.Proofs.YteokcodadpjepaaW.PrintLast Go.Proofs.YteokcodadpjepaaW.PrintMore Go.Proofs.Yteokcodadpjepaa.P
def cmpI (a b : Int) : Int := if a < b then -1 else if a > b then 1 else 0
theorem cmp_eq (a b : Int) : cmp_Compare_int.f a b = some (cmpI a b) := by
  unfold cmp_Compare_int.f cmp_isNaN_int.f cmpI
  simp
  split <;> (try split) <;> rfl
def cmpE (a b : E) : Int := if cmpI a.f0 b.f0 = 0 then cmpI a.f1 b.f1 else cmpI a.f0 b.f0
theorem cmpE_eq (a b : E) : impl_compareEdges.f a.f0 a.f1 b.f0 b.f1 = some (cmpE a b) := by
  unfold impl_compareEdges.f cmpE
  rw [cmp_eq, cmp_eq]
  simp only [Option.bind_some]
  split <;> rfl
theorem cmpE_lt (a b : E) : cmpE a b < 0 ↔ ¬ leE b a := by
  unfold cmpE cmpI leE
  by_cases h : a.f0 < b.f0
  · simp [h]; try omega
  · by_cases h2 : a.f0 > b.f0
    · simp [h, h2]; try omega
    · by_cases h3 : a.f1 < b.f1
      · simp [h, h2, h3]; try omega
      · by_cases h4 : a.f1 > b.f1
        · simp [h, h2, h3, h4]; try omega
        · simp [h, h2, h3, h4]; try omega
open Classical in
noncomputable def sortedB (es : List E) : Bool := decide (Sorted es)
theorem sortedB_iff {es : List E} : sortedB es = true ↔ Sorted es := by unfold sortedB; simp
/-- Sorted from an index on. -/
def SortedFrom (es : List E) (i : Nat) : Prop := ∀ j, i ≤ j → (h : j + 1 < es.length) → leE es[j] es[j + 1]
theorem SortedFrom.all {es : List E} (h : SortedFrom es 0) : sortedB es = true := sortedB_iff.2 (fun j hj => h j (Nat.zero_le _) hj)
theorem SortedFrom.none {es : List E} {i : Nat} (h : i + 1 < es.length) (hn : ¬ leE es[i] es[i + 1]) : sortedB es = false := by
  cases hb : sortedB es with
  | false => rfl
  | true => exact absurd (sortedB_iff.1 hb i h) hn
theorem SortedFrom.down {es : List E} {i : Nat} (h : SortedFrom es (i + 1)) (hi : i + 1 < es.length) (hl : leE es[i] es[i + 1]) : SortedFrom es i := by
  intro j hj hjl
  by_cases e : j = i
  · subst e; exact hl
  · exact h j (by omega) hjl
set_option maxHeartbeats 2000000 in
set_option maxRecDepth 100000 in
theorem isf_calls (es : List E) (A : Option Addr) (c : Nat) (w : World) (hr : Kd.C k74 w A es.length es) (hc : es.length ≤ c) :
    Calls Try.prog 89 #[.slice A es.length c, .func (.func 90) #[] #[]] w fun e w' => e = .returned (.bool (sortedB es)) ∧ Below w.heap.size w w' := by
  have hlen := hr.2.1
  have HR := Aside0.mk hr
  have HL := Aside0.mk hlen
  clear hr hlen
  have HB := Aside0.mk (Below.refl w.heap.size w)
  go_enter Try.func89, Try.ntmps89
  go_wp2
  go_loopw [5] (fun v wr => ∃ i : Int, v = .int .i64 i ∧ Aside0 (-1 ≤ i ∧ i < es.length ∧ SortedFrom es i.toNat) ∧ Aside0 (Below w.heap.size w wr)) (fun v _ => (intOf v + 1).toNat)
  case atStart => exact ⟨(es.length : Int) - 1, by rw [wrap_id (by have := HL.out; omega) (by have := HL.out; omega)], ⟨by omega, by omega, fun j hj hjl => by omega⟩, HB⟩
  case round =>
    obtain ⟨i, rfl, HI, HB⟩ := hrel
    by_cases h0 : 0 < i
    · obtain ⟨j, hij⟩ : ∃ j : Nat, i = (j : Int) + 1 := ⟨(i - 1).toNat, by omega⟩
      have hj := HI.out.2.1
      have hl := HL.out
      have hw : wrap64 (i - 1) = (j : Int) := by rw [wrap_id (by omega) (by omega)]; omega
      have p1 : 0 ≤ i := by omega
      have p2 : 0 ≤ wrap64 (i - 1) := by omega
      have q2 : wrap64 (i - 1) < (es.length : Int) := by omega
      obtain ⟨ad, e, hx0, hx1⟩ := at_T74 HR.out i p1 hj
      cases e
      obtain ⟨ad', e, hy0, hy1⟩ := at_T74 HR.out (wrap64 (i - 1)) p2 q2
      cases e
      replace hx0 := (HB.out.cell (World.block_lt_of_cell? w _ hx0)).trans hx0
      replace hx1 := (HB.out.cell (World.block_lt_of_cell? w _ hx1)).trans hx1
      replace hy0 := (HB.out.cell (World.block_lt_of_cell? w _ hy0)).trans hy0
      replace hy1 := (HB.out.cell (World.block_lt_of_cell? w _ hy1)).trans hy1
      have c0 : decide (0 < i) = true := decide_eq_true h0
      replace p1 := eq_true p1
      have q1 := eq_true hj
      replace p2 := eq_true p2
      replace q2 := eq_true q2
      have HW := Aside0.mk hw
      have HIJ := Aside0.mk hij
      clear hj hl hw hij h0
      go_wp2
      go_still_tail 10, (by kernel_rfl)
      simp only [i64_w]
      repeat still_step
      refine wpStill_nil ?_
      change wpList _ _ _ _ _ wr.drew
      have HB' := Aside0.mk (below_drew1 HB.out)
      clear HB hx0 hx1 hy0 hy1
      generalize wr.drew = w2 at HB' ⊢
      have HX := Aside0.mk (cmpE_eq (rd_T74 es i) (rd_T74 es (wrap64 (i - 1))))
      have HC := Aside0.mk (cmpE_lt (rd_T74 es i) (rd_T74 es (wrap64 (i - 1))))
      generalize cmpE (rd_T74 es i) (rd_T74 es (wrap64 (i - 1))) = z at HX HC
      have HE : Aside0 (∃ hj : j + 1 < es.length, rd_T74 es i = es[j + 1] ∧ rd_T74 es (wrap64 (i - 1)) = es[j]) := by
        have hj : j + 1 < es.length := by
          have := HI.out.2.1
          have := HIJ.out
          omega
        have e1 : i = ((j + 1 : Nat) : Int) := by have := HIJ.out; omega
        refine ⟨hj, ?_, ?_⟩
        · rw [e1, rdE_get hj]
        · rw [HW.out, rdE_get (by omega)]
      by_cases hz : z < 0
      · have cz : decide (z < 0) = true := decide_eq_true hz
        have HZ := Aside0.mk hz
        clear hz
        go_wp2_with fail
        refine (impl_compareEdges.calls _ _ _ _ z _ HX.out).mono ?_
        rintro e w3 ⟨rfl, hb⟩
        go_wp2
        go_ret
        obtain ⟨hj, e1, e2⟩ := HE.out
        have hs := SortedFrom.none hj (by rw [← e1, ← e2]; exact HC.out.1 HZ.out)
        exact ⟨by rw [hs]; rfl, below_step HB'.out hb⟩
      · have cz : decide (z < 0) = false := decide_eq_false hz
        have HZ := Aside0.mk hz
        clear hz
        go_wp2_with fail
        refine (impl_compareEdges.calls _ _ _ _ z _ HX.out).mono ?_
        rintro e w3 ⟨rfl, hb⟩
        have HB2 := Aside0.mk (below_step HB'.out hb)
        clear hb
        go_wp2
        go_roundw
        case rel =>
          have hi := HI.out
          have hw := HW.out
          have hij := HIJ.out
          refine ⟨wrap64 (i - 1), rfl, ⟨by omega, by omega, ?_⟩, HB2⟩
          obtain ⟨hj, e1, e2⟩ := HE.out
          have hle : leE es[j] es[j + 1] := by
            rw [← e1, ← e2]
            apply Classical.byContradiction
            intro hn
            have h1 := HC.out.2 hn
            have h2 := HZ.out
            omega
          rw [hw, Int.toNat_natCast]
          refine SortedFrom.down ?_ hj hle
          have := hi.2.2
          rw [hij, show ((j : Int) + 1).toNat = j + 1 by omega] at this
          exact this
        case measure =>
          have hi := HI.out
          have hw := HW.out
          have hij := HIJ.out
          simp [intOf]
          omega
    · have c0 : decide (0 < i) = false := decide_eq_false h0
      have HZ := Aside0.mk h0
      clear h0
      go_wp2
      go_ret
      have := HI.out
      have h0 := HZ.out
      have hs : SortedFrom es i.toNat := this.2.2
      rw [show i.toNat = 0 by omega] at hs
      have ha := hs.all
      exact ⟨by rw [ha]; rfl, HB.out⟩
end Go.Proofs.Yteokcodadpjepaa.Cf
end

section
namespace Go.Proofs.Yteokcodadpjepaa.P
open Go.RowKit Go.Proofs.YteokcodadpjepaaW.PrintWords Go.Proofs.YteokcodadpjepaaW.PrintLast Go.Proofs.YteokcodadpjepaaW.PrintMore
attribute [local go_sem] max2_int min2_int max_two min_two max_three min_three max_four min_four
set_option linter.unusedVariables false
set_option linter.unusedSimpArgs false
def impl_GraphOk.f (a0_0 : Int) (l0_1 : List (S74)) : Option Bool := some (Cf.gOk a0_0 l0_1)
set_option maxHeartbeats 2000000 in
set_option maxRecDepth 100000 in
theorem impl_GraphOk.calls (a0_0 : Int) (A0_1 : Option Addr) (c0_1 : Nat) (l0_1 : List (S74)) (r : Bool) (w : World) (hr0_1 : Kd.C k74 w A0_1 l0_1.length l0_1) (hc0_1 : l0_1.length ≤ c0_1) (h : impl_GraphOk.f a0_0 l0_1 = some r) :
  Calls Try.prog 58 #[.agg #[.int .i64 a0_0, .slice A0_1 l0_1.length c0_1]] w fun e w' => e = .returned (.bool r) ∧ Below w.heap.size w w' := by
 obtain rfl := Option.some.inj h; clear h; obtain ⟨k1, hk1⟩ := (Cf.implEdges a0_0 l0_1).rounds; have HR := Aside0.mk hr0_1; have HK1 := Aside0.mk hk1; clear hr0_1 hk1; go_enter Try.func58, Try.ntmps58; have HB := Aside0.mk (below_alloc (Below.refl w.heap.size w) (.cells #[.int .i64 a0_0, .slice A0_1 l0_1.length c0_1] 31)); have BK := Aside0.mk (heap_alloc_new w (.cells #[.int .i64 a0_0, .slice A0_1 l0_1.length c0_1] 31)); by_cases he : Cf.EsOk a0_0 l0_1; rotate_left
 ·have HE := Aside0.mk he; replace HK1 := Aside0.mk (HK1.out.trans (congrArg some (decide_eq_false he))); clear he; (go_wp2_with fail); refine (impl_EdgesOk.calls k1 _ _ _ l0_1 false _ (Kd.C_below HR.out HB.out) hc0_1 HK1.out).mono ?_; rintro e w1 ⟨rfl, hb⟩; have HB1 := Aside0.mk (below_step HB.out hb); clear hb; go_wp2; go_ret
  have hg : Cf.gOk a0_0 l0_1 = false := by
   cases hb : Cf.gOk a0_0 l0_1 with
   | false => rfl
   | true => exact absurd (Cf.gOk_iff.1 hb).1 HE.out
  exact ⟨by rw [hg]; rfl, HB1.out⟩
 have HE := Aside0.mk he; replace HK1 := Aside0.mk (HK1.out.trans (congrArg some (decide_eq_true he))); clear he; (go_wp2_with fail); refine (impl_EdgesOk.calls k1 _ _ _ l0_1 true _ (Kd.C_below HR.out HB.out) hc0_1 HK1.out).mono ?_; rintro e w1 ⟨rfl, hb⟩; have HB1 := Aside0.mk (below_step HB.out hb); have BK1 := Aside0.mk (blk_below BK.out hb); clear hb; have hz0 : w1.cell? ⟨w.heap.size, 0, none⟩ = some (.int .i64 a0_0) := (blk_cell BK1.out 0).trans rfl; have hz1 : w1.cell? ⟨w.heap.size, 1, none⟩ = some (.slice A0_1 l0_1.length c0_1) := (blk_cell BK1.out 1).trans rfl; (go_wp2_with fail); have HS := Aside0.mk (Cf.isf_calls l0_1 A0_1 c0_1 w1 (Kd.C_below HR.out HB1.out) hc0_1); by_cases hs : Cf.Sorted l0_1; rotate_left
 ·have hsb : Cf.sortedB l0_1 = false := by
   cases hb : Cf.sortedB l0_1 with
   | false => rfl
   | true => exact absurd (Cf.sortedB_iff.1 hb) hs
  rw [hsb] at HS; have HSo := Aside0.mk hs; clear hs hsb; refine HS.out.mono ?_; rintro e w2 ⟨rfl, hb⟩; have HB2 := Aside0.mk (below_step HB1.out hb); clear hb hz0 hz1; go_wp2; go_ret
  have hg : Cf.gOk a0_0 l0_1 = false := by
   cases hb : Cf.gOk a0_0 l0_1 with
   | false => rfl
   | true => exact absurd (Cf.gOk_iff.1 hb).2.1 HSo.out
  exact ⟨by rw [hg]; rfl, HB2.out⟩
 have HSo := Aside0.mk hs; rw [Cf.sortedB_iff.2 hs] at HS; clear hs; refine HS.out.mono ?_; rintro e w2 ⟨rfl, hb⟩; have HB2 := Aside0.mk (below_step HB1.out hb); have BK2 := Aside0.mk (blk_below BK1.out hb); clear hb hz0 hz1; have hz0 : w2.cell? ⟨w.heap.size, 0, none⟩ = some (.int .i64 a0_0) := (blk_cell BK2.out 0).trans rfl; have hz1 : w2.cell? ⟨w.heap.size, 1, none⟩ = some (.slice A0_1 l0_1.length c0_1) := (blk_cell BK2.out 1).trans rfl; (go_wp2_with fail); obtain ⟨h1, h6, hl, hes⟩ := HE.out; obtain ⟨n, rfl⟩ := Int.eq_ofNat_of_zero_le (a := a0_0) (by omega); obtain ⟨k2, hk2⟩ := (Cf.implConn n ⟨by omega, by omega⟩ l0_1 (by omega) hes).rounds; refine (impl_connected.calls k2 _ _ _ l0_1 (Cf.joinedB n l0_1) _ (Kd.C_below HR.out HB2.out) hc0_1 hk2).mono ?_; rintro e w3 ⟨rfl, hd⟩; have HB3 := Aside0.mk (below_step HB2.out hd); clear hd hk2 h1 h6 hl hes
 have hg : Cf.gOk n l0_1 = Cf.joinedB n l0_1 := by
  rw [Bool.eq_iff_iff, Cf.gOk_iff, Cf.joinedB_iff]; exact ⟨fun h => h.2.2, fun h => ⟨HE.out, HSo.out, h⟩⟩
 have HG := Aside0.mk hg; clear hg; generalize Cf.joinedB n l0_1 = z at HG ⊢; cases z
 ·go_wp2; go_ret; exact ⟨by rw [HG.out]; rfl, HB3.out⟩
 ·go_wp2; go_ret; exact ⟨by rw [HG.out]; rfl, HB3.out⟩
def impl_allWithin.l0 : Nat → Int → Int → List Int → Int → Int → Option (Bool)
 | 0, _, _, _, _, _ => none
 | k + 1, x1, x2, x9, x10, x11 => if x11 < x10 then (if 0 ≤ x11 then (if x11 < (x9.length : Int) then ((impl_within.f (rd x9 x11) x1 x2).bind fun t102 => (if t102 = true then (impl_allWithin.l0 k x1 x2 x9 x10 (wrap64 (x11 + 1))) else (some false))) else (none)) else (none)) else (some true)
def impl_allWithin.f (k : Nat) (l0 : List Int) (a1 : Int) (a2 : Int) : Option (Bool) := impl_allWithin.l0 k a1 a2 l0 (l0.length : Int) 0
theorem impl_allWithin.mono_l : ∀ k, (∀ y0 y1 y2 y3 y4, LeO (impl_allWithin.l0 k y0 y1 y2 y3 y4) (impl_allWithin.l0 (k + 1) y0 y1 y2 y3 y4))
 | 0 => fun _ _ _ _ _ r h => by simp [impl_allWithin.l0] at h
 | k + 1 => by
  have ih0 := impl_allWithin.mono_l k
  ·intro y0 y1 y2 y3 y4
   unfold impl_allWithin.l0
   exact zm1
theorem impl_allWithin.mono : ∀ a0 a1 a2 k, LeO (impl_allWithin.f k a0 a1 a2) (impl_allWithin.f (k + 1) a0 a1 a2) := by
 intro a0 a1 a2 k; have ih0 := impl_allWithin.mono_l k; unfold impl_allWithin.f; exact zm1
set_option maxHeartbeats 8000000 in
set_option maxRecDepth 100000 in
theorem impl_allWithin.calls (k : Nat) (A0 : Option Addr) (c0 : Nat) (l0 : List Int) (a1 : Int) (a2 : Int) (r : Bool) (w : World) (hr0 : Kd.C (Kd.int .i64) w A0 l0.length l0) (hc0 : l0.length ≤ c0) (h : impl_allWithin.f k l0 a1 a2 = some r) :
  Calls Try.prog 59 #[.slice A0 l0.length c0, .int .i64 a1, .int .i64 a2] w fun e w' => e = .returned (.bool r) ∧ Drawn0 w w' := by
 have HR0 := Aside0.mk hr0; have HC0 := Aside0.mk hc0; clear hr0 hc0; have H : (impl_allWithin.l0 k a1 a2 l0 (l0.length : Int) 0) = some r := h; clear h; have H' := Aside0.mk H; clear H; go_enter Try.func59, Try.ntmps59; go_wp2; (go_loopg [11] k (fun kq v11 w' => ∃ (x11_1 : Int), v11 = .int .i64 x11_1 ∧ Aside0 (impl_allWithin.l0 kq a1 a2 l0 (l0.length : Int) x11_1 = some r) ∧ Aside0 (kq ≤ k) ∧ Drawn0 w w')); case atStart => exact ⟨(0), zz7, H', ⟨Nat.le_refl _⟩, by repeat (first | exact Drawn0.refl _ | apply Drawn0.step)⟩
 case round =>
  clear H'; (try clear p2); obtain ⟨x11_1, rfl, HA, HK1, ⟨m1, rfl⟩⟩ := hrel
  cases gk with
  | zero => exact absurd HA.out (by simp [impl_allWithin.l0])
  | succ k1 =>
   have H := HA.out; clear HA; simp only [impl_allWithin.l0] at H; by_cases c4 : x11_1 < (l0.length : Int); rotate_left
   ·rw [if_neg c4] at H; have c4b0 := decide_eq_false c4; clear c4; obtain rfl := Option.some.inj H; go_wp2; go_ret; exact ⟨zz7, by repeat (first | exact Drawn0.refl _ | apply Drawn0.step)⟩
   rw [if_pos c4] at H; have c4b0 := decide_eq_true c4; clear c4; by_cases c5 : 0 ≤ x11_1; rotate_left
   ·rw [if_neg c5] at H; exact absurd H (by simp)
   rw [if_pos c5] at H; have c5b0 := decide_eq_true c5; clear c5; by_cases c6 : x11_1 < (l0.length : Int); rotate_left
   ·rw [if_neg c6] at H; exact absurd H (by simp)
   rw [if_pos c6] at H; have c6b0 := decide_eq_true c6; clear c6; replace H := Option.bind_eq_some_iff.mp H; obtain ⟨t102, A70, H⟩ := H; (try dsimp only at H); have A7 := Aside0.mk A70; clear A70; by_cases c8 : t102 = true; rotate_left
   ·replace c8 := Bool.eq_false_iff.mpr c8; subst c8; rw [if_neg (show ¬ (false = true) by decide)] at H; obtain rfl := Option.some.inj H; have p101 : 0 ≤ (x11_1 : Int) := of_decide_eq_true zz4; have q101 : x11_1 < (l0.length : Int) := of_decide_eq_true zz4; obtain ⟨ad101, e101, hx101_0⟩ := Kd.at_int HR0.out x11_1 p101 q101; cases e101; replace p101 := eq_true p101; replace q101 := eq_true q101; (go_wp2_with (first | ((with_reducible refine gate_callee (f := 34) rfl ?_); refine goesL_ (some 18) rfl rfl Try.func34 (by kernel_rfl) rfl #[.int .i64 (rd l0 x11_1), .int .i64 a1, .int .i64 a2] rfl zz3 ?_; (with_reducible refine (impl_within.calls (rd l0 x11_1) a1 a2 false _ A7.out).mono ?_); rintro e w' ⟨rfl, ⟨nd, rfl⟩⟩; refine ⟨_, rfl, ?_⟩))); go_ret; exact ⟨zz7, by repeat (first | exact Drawn0.refl _ | apply Drawn0.step)⟩
   subst c8; rw [if_pos rfl] at H; have H' := Aside0.mk H; clear H; have p101 : 0 ≤ (x11_1 : Int) := of_decide_eq_true zz4; have q101 : x11_1 < (l0.length : Int) := of_decide_eq_true zz4; obtain ⟨ad101, e101, hx101_0⟩ := Kd.at_int HR0.out x11_1 p101 q101; cases e101; replace p101 := eq_true p101; replace q101 := eq_true q101; (go_wp2_with (first | ((with_reducible refine gate_callee (f := 34) rfl ?_); refine goesL_ (some 18) rfl rfl Try.func34 (by kernel_rfl) rfl #[.int .i64 (rd l0 x11_1), .int .i64 a1, .int .i64 a2] rfl zz3 ?_; (with_reducible refine (impl_within.calls (rd l0 x11_1) a1 a2 true _ A7.out).mono ?_); rintro e w' ⟨rfl, ⟨nd, rfl⟩⟩; refine ⟨_, rfl, ?_⟩))); go_roundg k1; (case measure => have := HK1.out; omega); case rel => exact ⟨(wrap64 (x11_1 + 1)), zz7, H', ⟨zz39⟩, by repeat (first | exact Drawn0.refl _ | apply Drawn0.step)⟩
def impl_edgesOf.l0 : Nat → List (S74) → List Int → Int → Int → Int → List (S74) → Option ((List (S74)))
 | 0, _, _, _, _, _, _ => none
 | k + 1, x5, x8, x9, x10, x102000, x102001 => if x10 < x9 then (if 0 ≤ x10 then (if x10 < (x8.length : Int) then (if 0 ≤ (rd x8 x10) then (if (rd x8 x10) < (x102001.length : Int) then (if x5.length < 8796093022208 then (impl_edgesOf.l0 k (x5 ++ [(⟨(rd_T74 x102001 (rd x8 x10)).f0, (rd_T74 x102001 (rd x8 x10)).f1⟩ : S74)]) x8 x9 (wrap64 (x10 + 1)) x102000 x102001) else (none)) else (none)) else (none)) else (none)) else (none)) else (some x5)
def impl_edgesOf.f (k : Nat) (a0_0 : Int) (l0_1 : List (S74)) (l1 : List Int) : Option ((List (S74))) := impl_edgesOf.l0 k ([] : List (S74)) l1 (l1.length : Int) 0 a0_0 l0_1
theorem impl_edgesOf.mono_l : ∀ k, (∀ y0 y1 y2 y3 y4 y5, LeO (impl_edgesOf.l0 k y0 y1 y2 y3 y4 y5) (impl_edgesOf.l0 (k + 1) y0 y1 y2 y3 y4 y5))
 | 0 => fun _ _ _ _ _ _ r h => by simp [impl_edgesOf.l0] at h
 | k + 1 => by
  have ih0 := impl_edgesOf.mono_l k
  ·intro y0 y1 y2 y3 y4 y5
   unfold impl_edgesOf.l0
   exact zm1
theorem impl_edgesOf.mono : ∀ a0 a1 a2 k, LeO (impl_edgesOf.f k a0 a1 a2) (impl_edgesOf.f (k + 1) a0 a1 a2) := by
 intro a0 a1 a2 k; have ih0 := impl_edgesOf.mono_l k; unfold impl_edgesOf.f; exact zm1
set_option maxHeartbeats 8000000 in
set_option maxRecDepth 100000 in
theorem impl_edgesOf.calls (k : Nat) (a0_0 : Int) (A0_1 : Option Addr) (c0_1 : Nat) (l0_1 : List (S74)) (A1 : Option Addr) (c1 : Nat) (l1 : List Int) (r : List (S74)) (w : World) (hr0_1 : Kd.C k74 w A0_1 l0_1.length l0_1) (hc0_1 : l0_1.length ≤ c0_1) (hr1 : Kd.C (Kd.int .i64) w A1 l1.length l1) (hc1 : l1.length ≤ c1) (h : impl_edgesOf.f k a0_0 l0_1 l1 = some r) :
  Calls Try.prog 61 #[.agg #[.int .i64 a0_0, .slice A0_1 l0_1.length c0_1], .slice A1 l1.length c1] w fun e w' => ∃ v0_ : Value, e = .returned (v0_) ∧ Kd.R k74 74 w' w.heap.size (fun _ => True) v0_ r ∧ Below w.heap.size w w' := by
 have hu31 := Try.underlying31; have hu74 := Try.underlying74; have HR0_1 := Aside0.mk hr0_1; have HC0_1 := Aside0.mk hc0_1; clear hr0_1 hc0_1; have HR1 := Aside0.mk hr1; have HC1 := Aside0.mk hc1; clear hr1 hc1; have HB := Aside0.mk (Below.refl w.heap.size w); have H : (impl_edgesOf.l0 k ([] : List (S74)) l1 (l1.length : Int) 0 a0_0 l0_1) = some r := h; clear h; have H' := Aside0.mk H; clear H; go_enter Try.func61, Try.ntmps61; (go_wp2_with (first | ((with_reducible refine gate_dst (N := 2) rfl ?_); refine box_event ?hg (N := 2) ?hd (cs := #[.int .i64 a0_0, .slice A0_1 l0_1.length c0_1]) (t := 31) ?hr ?_; (case hd => rfl); (case hg => rfl); (case hr => exact zz9); intro gb101 hg w3 hbox hb; have n_ := zA4 (below_step zz2 hb) hbox (zz12 : w.heap.size ≤ gb101) (zz12 : w.heap.size ≤ gb101); clear HB; obtain ⟨HB, BK101, GW101, GE101⟩ := n_; clear hb hbox hg))); (go_loopg [5, 10] k (fun kq v5 v10 w' => ∃ (x5_1 : List (S74)) (x10_1 : Int), v10 = .int .i64 x10_1 ∧ Aside0 (impl_edgesOf.l0 kq x5_1 l1 (l1.length : Int) x10_1 a0_0 l0_1 = some r) ∧ Aside0 (kq ≤ k) ∧ Aside0 (Kd.R k74 74 w' w.heap.size (fun _ => True) v5 x5_1) ∧ Aside0 (w'.heap[gb101]? = some (.cells #[.int .i64 a0_0, (.slice A0_1 l0_1.length c0_1)] 31 (0, 0))) ∧ Aside0 (Below w.heap.size w w'))); case atStart => exact ⟨(([] : List (S74))), (0), zz7, H', ⟨Nat.le_refl _⟩, ⟨by first | exact Kd.R_nil _ _ _ _ _ | exact Kd.N_nil _ _ _ _ _ | exact Kd.V_nil _ _ _ _ _ | exact Kd.Q_nil _ _ _ _ _ | exact Kd.S_nil _ _ _ _ _⟩, ⟨zz1⟩, ⟨zz0⟩⟩
 case round =>
  clear H'; (try clear c1); (try clear p2); obtain ⟨x5_1, x10_1, rfl, HA, HK1, HO_5, BK101, HB⟩ := hrel
  cases gk with
  | zero => exact absurd HA.out (by simp [impl_edgesOf.l0])
  | succ k1 =>
   have H := HA.out; clear HA; simp only [impl_edgesOf.l0] at H; by_cases c4 : x10_1 < (l1.length : Int); rotate_left
   ·rw [if_neg c4] at H; have c4b0 := decide_eq_false c4; clear c4; obtain rfl := Option.some.inj H; go_wp2; go_ret; exact ⟨_, zz6, by (with_reducible repeat (first | apply Kd.R_alloc | apply Kd.R_drewN | apply Kd.R_drew)); exact HO_5.out, zz0⟩
   rw [if_pos c4] at H; have c4b0 := decide_eq_true c4; clear c4; by_cases c5 : 0 ≤ x10_1; rotate_left
   ·rw [if_neg c5] at H; exact absurd H (by simp)
   rw [if_pos c5] at H; have c5b0 := decide_eq_true c5; clear c5; by_cases c6 : x10_1 < (l1.length : Int); rotate_left
   ·rw [if_neg c6] at H; exact absurd H (by simp)
   rw [if_pos c6] at H; have c6b0 := decide_eq_true c6; clear c6; by_cases c7 : 0 ≤ (rd l1 x10_1); rotate_left
   ·rw [if_neg c7] at H; exact absurd H (by simp)
   rw [if_pos c7] at H; have c7b0 := decide_eq_true c7; clear c7; by_cases c8 : (rd l1 x10_1) < (l0_1.length : Int); rotate_left
   ·rw [if_neg c8] at H; exact absurd H (by simp)
   rw [if_pos c8] at H; have c8b0 := decide_eq_true c8; clear c8; by_cases c9 : x5_1.length < 8796093022208; rotate_left
   ·rw [if_neg c9] at H; exact absurd H (by simp)
   rw [if_pos c9] at H; have LMc9 := Aside0.mk c9; clear c9; obtain ⟨y104, hy_⟩ : ∃ y_ : List (S74), y_ = (x5_1 ++ [(⟨(rd_T74 l0_1 (rd l1 x10_1)).f0, (rd_T74 l0_1 (rd l1 x10_1)).f1⟩ : S74)]) := ⟨_, rfl⟩; (replace H : (impl_edgesOf.l0 k1 y104 l1 (l1.length : Int) (wrap64 (x10_1 + 1)) a0_0 l0_1) = some r := zzY); have Ny104 := Aside0.mk hy_; clear hy_; have H' := Aside0.mk H; clear H; have p102 : 0 ≤ (x10_1 : Int) := of_decide_eq_true zz4; have q102 : x10_1 < (l1.length : Int) := of_decide_eq_true zz4; obtain ⟨ad102, e102, hx102_0⟩ := Kd.at_int HR1.out x10_1 p102 q102; cases e102; replace hx102_0 := (HB.out.cell (World.block_lt_of_cell? w _ hx102_0)).trans hx102_0; replace p102 := eq_true p102; replace q102 := eq_true q102; have hcz10_0 := zC20 BK101; have hcz10_1 := zC21 BK101; have hfz10_0 := blk_frozen BK101.out 0; have hfz10_1 := blk_frozen BK101.out 1; have p103 : 0 ≤ ((rd l1 x10_1) : Int) := of_decide_eq_true zz4; have q103 : (rd l1 x10_1) < (l0_1.length : Int) := of_decide_eq_true zz4; obtain ⟨ad103, e103, hx103_0, hx103_1⟩ := at_T74 HR0_1.out (rd l1 x10_1) p103 q103; cases e103; replace hx103_0 := (HB.out.cell (World.block_lt_of_cell? w _ hx103_0)).trans hx103_0; replace hx103_1 := (HB.out.cell (World.block_lt_of_cell? w _ hx103_1)).trans hx103_1; replace p103 := eq_true p103; replace q103 := eq_true q103; (go_wp2_with (first | ((with_reducible refine gate_builtin (b := .append) (xs := #[.tmp 14, .tmp 20]) rfl ?_); at_builtin; refine Kd.R_append k74 (w0 := w) w.heap.size rfl (.tmp 14) (.tmp 20) 29 74 (.agg #[(.int .i64 0), (.int .i64 0)]) 16 rfl Try.underlying29 info74 rfl (by decide) (by omega) u5 x5_1 (⟨(rd_T74 l0_1 (rd l1 x10_1)).f0, (rd_T74 l0_1 (rd l1 x10_1)).f1⟩ : S74) [.int .i64 ((rd_T74 l0_1 (rd l1 x10_1)).f0), .int .i64 ((rd_T74 l0_1 (rd l1 x10_1)).f1)] (fun _ => True) (fun _ => False) rfl rfl ?aP (fun _ hk => hk.elim) ?aF ?aO ?aB ?aS ?aL ?_; (case aP => exact k74_mkM _ _ _ (⟨(rd_T74 l0_1 (rd l1 x10_1)).f0, (rd_T74 l0_1 (rd l1 x10_1)).f1⟩ : S74)); (case aB => exact zz0); (case aF => exact (fun _ _ => trivial)); (case aO => exact (by (with_reducible repeat (first | apply Kd.R_alloc | apply Kd.R_drewN | apply Kd.R_drew)); exact HO_5.out)); (case aS => exact (below_size zz0)); (case aL => have := LMc9.out; omega); intro v105 w11 ho hb hg hat; rw [← Ny104.out] at ho; have n_ := zA3 (blk_grown (g := gb101) (o := .cells #[.int .i64 a0_0, .slice (some ad103) l0_1.length c0_1] 31 (0, 0)) zz1 hg (Kd.R_ne HO_5.out BK101.out (by decide))) hb ho; clear BK101 HB HO_5; obtain ⟨BK101, HB, HO106⟩ := n_; clear ho hb hg hat))); go_roundg k1; (case measure => have := HK1.out; omega); case rel => exact ⟨(y104), (wrap64 (x10_1 + 1)), zz7, H', ⟨zz39⟩, ⟨by (with_reducible repeat (first | apply Kd.R_alloc | apply Kd.R_drewN | apply Kd.R_drew)); exact HO106.out⟩, ⟨zz1⟩, ⟨zz0⟩⟩
mutual
def impl_IsTree.j0 : Nat → List Int → Bool → Int → List (S74) → Option (Bool)
 | 0, _, _, _, _ => none
 | k + 1, x1, x25, x102000, x102001 => if x25 = true then (some false) else (impl_IsTree.l0 k x1 1 x102000 x102001)
def impl_IsTree.l0 : Nat → List Int → Int → Int → List (S74) → Option (Bool)
 | 0, _, _, _, _ => none
 | k + 1, x1, x5, x102000, x102001 => if x5 < (x1.length : Int) then (if 0 ≤ (wrap64 (x5 - 1)) then (if (wrap64 (x5 - 1)) < (x1.length : Int) then (if 0 ≤ x5 then (if (rd x1 (wrap64 (x5 - 1))) ≥ (rd x1 x5) then (some false) else (impl_IsTree.l0 k x1 (wrap64 (x5 + 1)) x102000 x102001)) else (none)) else (none)) else (none)) else ((impl_edgesOf.f k x102000 x102001 x1).bind fun t106 => ((impl_connected.f k x102000 t106).bind fun t109 => (some t109)))
end
def impl_IsTree.f (k : Nat) (a0_0 : Int) (l0_1 : List (S74)) (l1 : List Int) : Option (Bool) := (impl_GraphOk.f a0_0 l0_1).bind fun t102 => (if t102 = true then (if (l1.length : Int) = (wrap64 (a0_0 - 1)) then ((impl_allWithin.f k l1 0 (wrap64 ((l0_1.length : Int) - 1))).bind fun t103 => (impl_IsTree.j0 k l1 (!t103) a0_0 l0_1)) else (impl_IsTree.j0 k l1 true a0_0 l0_1)) else (impl_IsTree.j0 k l1 true a0_0 l0_1))
theorem impl_IsTree.mono_l : ∀ k, (∀ y0 y1 y2 y3, LeO (impl_IsTree.j0 k y0 y1 y2 y3) (impl_IsTree.j0 (k + 1) y0 y1 y2 y3)) ∧ (∀ y0 y1 y2 y3, LeO (impl_IsTree.l0 k y0 y1 y2 y3) (impl_IsTree.l0 (k + 1) y0 y1 y2 y3))
 | 0 => ⟨fun _ _ _ _ r h => by simp [impl_IsTree.j0] at h, fun _ _ _ _ r h => by simp [impl_IsTree.l0] at h⟩
 | k + 1 => by
  obtain ⟨ih0, ih1⟩ := impl_IsTree.mono_l k
  refine ⟨?_, ?_⟩
  ·intro y0 y1 y2 y3
   unfold impl_IsTree.j0
   exact zm6
  ·intro y0 y1 y2 y3
   unfold impl_IsTree.l0
   exact zm6
theorem impl_IsTree.mono : ∀ a0 a1 a2 k, LeO (impl_IsTree.f k a0 a1 a2) (impl_IsTree.f (k + 1) a0 a1 a2) := by
 intro a0 a1 a2 k; obtain ⟨ih0, ih1⟩ := impl_IsTree.mono_l k; unfold impl_IsTree.f; exact zm6
def impl_IsTree.T6 : Bool × List (List Nat × List Nat) := (true, [([], []), ([], []), ([1], [1]), ([0, 2], [0, 2]), ([3], [3]), ([], []), ([], []), ([5, 6], [5, 6]), ([7], [7]), ([4, 8], [4, 8])])
def impl_IsTree.B6 : List Nat := [0, 0, 2, 7, 15, 0, 0, 96, 224, 511]
theorem impl_IsTree.tab6 : rtab .any (opsOf Try.f28 6) = impl_IsTree.T6 := by kernel_rfl
theorem impl_IsTree.bits6 : waitsOk impl_IsTree.T6.2 impl_IsTree.B6 = true := by kernel_rfl
set_option maxHeartbeats 8000000 in
set_option maxRecDepth 100000 in
theorem impl_IsTree.calls (k : Nat) (a0_0 : Int) (A0_1 : Option Addr) (c0_1 : Nat) (l0_1 : List (S74)) (A1 : Option Addr) (c1 : Nat) (l1 : List Int) (r : Bool) (w : World) (hr0_1 : Kd.C k74 w A0_1 l0_1.length l0_1) (hc0_1 : l0_1.length ≤ c0_1) (hr1 : Kd.C (Kd.int .i64) w A1 l1.length l1) (hc1 : l1.length ≤ c1) (h : impl_IsTree.f k a0_0 l0_1 l1 = some r) :
  Calls Try.prog 28 #[.agg #[.int .i64 a0_0, .slice A0_1 l0_1.length c0_1], .slice A1 l1.length c1] w fun e w' => e = .returned (.bool r) ∧ Below w.heap.size w w' := by
 have hu31 := Try.underlying31; have HR0_1 := Aside0.mk hr0_1; have HC0_1 := Aside0.mk hc0_1; clear hr0_1 hc0_1; have HR1 := Aside0.mk hr1; have HC1 := Aside0.mk hc1; clear hr1 hc1; have HB := Aside0.mk (Below.refl w.heap.size w); have H : ((impl_GraphOk.f a0_0 l0_1).bind fun t102 => (if t102 = true then (if (l1.length : Int) = (wrap64 (a0_0 - 1)) then ((impl_allWithin.f k l1 0 (wrap64 ((l0_1.length : Int) - 1))).bind fun t103 => (impl_IsTree.j0 k l1 (!t103) a0_0 l0_1)) else (impl_IsTree.j0 k l1 true a0_0 l0_1)) else (impl_IsTree.j0 k l1 true a0_0 l0_1))) = some r := h; clear h; have HC3 := Aside0.mk H; clear H; go_enter Try.func28, Try.ntmps28; (go_upto_region 1 with (first | ((with_reducible refine gate_dst (N := 2) rfl ?_); (try (refine gate_guard (by rfl) ?_; dsimp only)); refine box_event ?hg (N := 2) ?hd (cs := #[.int .i64 a0_0, .slice A0_1 l0_1.length c0_1]) (t := 31) ?hr ?_; (case hd => rfl); (case hg => rfl); (case hr => exact zz9); intro gb101 hg w4 hbox hb; have n_ := zA4 (below_step zz2 hb) hbox (zz12 : w.heap.size ≤ gb101) (zz12 : w.heap.size ≤ gb101); clear HB; obtain ⟨HB, BK101, GW101, GE101⟩ := n_; clear hb hbox hg))); (try simp only [Act.put, List.setIfInBounds_toArray, List.set_cons_zero, List.set_cons_succ]); go_cut [25] (fun v25 wc => ∃ (kq : Nat) (x25_2 : Bool), v25 = .bool x25_2 ∧ Aside0 (impl_IsTree.j0 kq l1 x25_2 a0_0 l0_1 = some r) ∧ Aside0 (kq ≤ k) ∧ Aside0 (wc.heap[gb101]? = some (.cells #[.int .i64 a0_0, (.slice A0_1 l0_1.length c0_1)] 31 (0, 0))) ∧ Aside0 (Below w.heap.size w wc))
 case first =>
  have H := HC3.out; clear HC3; replace H := Option.bind_eq_some_iff.mp H; obtain ⟨t102, A50, H⟩ := H; (try dsimp only at H); have A5 := Aside0.mk A50; clear A50; by_cases c6 : t102 = true; rotate_left
  ·replace c6 := Bool.eq_false_iff.mpr c6; subst c6; rw [if_neg (show ¬ (false = true) by decide)] at H; have H' := Aside0.mk H; clear H; have hcz15_0 := zC20 BK101; have hcz15_1 := zC21 BK101; have hfz15_0 := blk_frozen BK101.out 0; have hfz15_1 := blk_frozen BK101.out 1; (go_wp2_with (first | ((with_reducible refine gate_callee (f := 58) rfl ?_); refine goesL_ (some 7) rfl rfl Try.func58 (by kernel_rfl) rfl #[.agg #[.int .i64 a0_0, .slice A0_1 l0_1.length c0_1]] rfl zz3 ?_; (with_reducible refine (impl_GraphOk.calls a0_0 _ _ l0_1 false _ ?side1 ?side2 A5.out).mono ?_); (case side1 => exact zz8); (case side2 => exact HC0_1.out); rintro e w16 ⟨rfl, hb⟩; refine ⟨_, rfl, ?_⟩; have n_ := zA2 (blk_below (g := gb101) (o := .cells #[.int .i64 a0_0, .slice A0_1 l0_1.length c0_1] 31 (0, 0)) zz1 hb) (below_step zz0 hb); clear BK101 HB; obtain ⟨BK101, HB⟩ := n_; clear hb))); (go_meet); case rel => exact ⟨_, (true), zz7, H', ⟨by first | omega | exact Nat.le_refl _⟩, ⟨zz1⟩, ⟨zz0⟩⟩
  subst c6; rw [if_pos rfl] at H; by_cases c7 : (l1.length : Int) = (wrap64 (a0_0 - 1)); rotate_left
  ·rw [if_neg c7] at H; have c7b0 : ((l1.length : Int) == (wrap64 (a0_0 - 1))) = false := beq_eq_false_iff_ne.mpr c7; have c7b1 : ((l1.length : Int) != (wrap64 (a0_0 - 1))) = true := bne_iff_ne.mpr c7; (first | rw [c7b0] | (simp only [i64_w, i32_w]; rw [c7b0]) | skip); have H' := Aside0.mk H; clear H; have hcz12_0 := zC20 BK101; have hcz12_1 := zC21 BK101; have hfz12_0 := blk_frozen BK101.out 0; have hfz12_1 := blk_frozen BK101.out 1; (go_wp2_with (first | ((with_reducible refine gate_callee (f := 58) rfl ?_); refine goesL_ (some 7) rfl rfl Try.func58 (by kernel_rfl) rfl #[.agg #[.int .i64 a0_0, .slice A0_1 l0_1.length c0_1]] rfl zz3 ?_; (with_reducible refine (impl_GraphOk.calls a0_0 _ _ l0_1 true _ ?side1 ?side2 A5.out).mono ?_); (case side1 => exact zz8); (case side2 => exact HC0_1.out); rintro e w13 ⟨rfl, hb⟩; refine ⟨_, rfl, ?_⟩; have n_ := zA2 (blk_below (g := gb101) (o := .cells #[.int .i64 a0_0, .slice A0_1 l0_1.length c0_1] 31 (0, 0)) zz1 hb) (below_step zz0 hb); clear BK101 HB; obtain ⟨BK101, HB⟩ := n_; clear hb; have hcz14_0 := zC20 BK101; have hcz14_1 := zC21 BK101; have hfz14_0 := blk_frozen BK101.out 0; have hfz14_1 := blk_frozen BK101.out 1))); (go_meet); case rel => exact ⟨_, (true), zz7, H', ⟨by first | omega | exact Nat.le_refl _⟩, ⟨zz1⟩, ⟨zz0⟩⟩
  rw [if_pos c7] at H; have c7b0 : ((l1.length : Int) == (wrap64 (a0_0 - 1))) = true := beq_iff_eq.mpr c7; have c7b1 : ((l1.length : Int) != (wrap64 (a0_0 - 1))) = false := bne_eq_false_iff_eq.mpr c7; clear c7; (first | rw [c7b0] | (simp only [i64_w, i32_w]; rw [c7b0]) | skip); replace H := Option.bind_eq_some_iff.mp H; obtain ⟨t103, A80, H⟩ := H; (try dsimp only at H); have A8 := Aside0.mk A80; clear A80; have H' := Aside0.mk H; clear H; have hcz9_0 := zC20 BK101; have hcz9_1 := zC21 BK101; have hfz9_0 := blk_frozen BK101.out 0; have hfz9_1 := blk_frozen BK101.out 1; (go_wp2_with (first | ((with_reducible refine gate_callee (f := 58) rfl ?_); refine goesL_ (some 7) rfl rfl Try.func58 (by kernel_rfl) rfl #[.agg #[.int .i64 a0_0, .slice A0_1 l0_1.length c0_1]] rfl zz3 ?_; (with_reducible refine (impl_GraphOk.calls a0_0 _ _ l0_1 true _ ?side1 ?side2 A5.out).mono ?_); (case side1 => exact zz8); (case side2 => exact HC0_1.out); rintro e w10 ⟨rfl, hb⟩; refine ⟨_, rfl, ?_⟩; have n_ := zA2 (blk_below (g := gb101) (o := .cells #[.int .i64 a0_0, .slice A0_1 l0_1.length c0_1] 31 (0, 0)) zz1 hb) (below_step zz0 hb); clear BK101 HB; obtain ⟨BK101, HB⟩ := n_; clear hb; have hcz11_0 := zC20 BK101; have hcz11_1 := zC21 BK101; have hfz11_0 := blk_frozen BK101.out 0; have hfz11_1 := blk_frozen BK101.out 1) | (go_at_call 59; (with_reducible refine (impl_allWithin.calls k _ _ l1 0 (wrap64 ((l0_1.length : Int) - 1)) t103 _ ?side1 ?side2 A8.out).mono ?_); (case side1 => exact zz21); (case side2 => exact HC1.out); rintro e w' ⟨rfl, ⟨nd, rfl⟩⟩))); (go_meet); case rel => exact ⟨_, (!t103), zz7, H', ⟨by first | omega | exact Nat.le_refl _⟩, ⟨zz1⟩, ⟨zz0⟩⟩
 case rest =>
  clear HC3; (try clear c1); (try clear c2); (try clear p2); (try clear c5); (try clear c6); (try clear p6); (try clear c7); (try clear c7b0); (try clear c7b1); (try clear hcz11_0); (try clear hcz11_1); (try clear hcz12_0); (try clear hcz12_1); (try clear hcz14_0); (try clear hcz14_1); (try clear hcz15_0); (try clear hcz15_1); (try clear hcz9_0); (try clear hcz9_1); (try clear hfz11_0); (try clear hfz11_1); (try clear hfz12_0); (try clear hfz12_1); (try clear hfz14_0); (try clear hfz14_1); (try clear hfz15_0); (try clear hfz15_1); (try clear hfz9_0); (try clear hfz9_1); obtain ⟨kq, x25_2, rfl, HA, HJ2, BK101, HB⟩ := hcut
  cases kq with
  | zero => exact absurd HA.out (by simp [impl_IsTree.j0])
  | succ kj2 =>
   have H := HA.out; clear HA; simp only [impl_IsTree.j0] at H; by_cases c17 : x25_2 = true
   ·subst c17; rw [if_pos rfl] at H; obtain rfl := Option.some.inj H; go_wp2; go_ret; exact ⟨zz6, zz0⟩
   replace c17 := Bool.eq_false_iff.mpr c17; subst c17; rw [if_neg (show ¬ (false = true) by decide)] at H; have H' := Aside0.mk H; clear H; go_wp2; (go_loopg [5] kj2 (fun kq v5 w' => ∃ (x5_2 : Int), v5 = .int .i64 x5_2 ∧ Aside0 (impl_IsTree.l0 kq l1 x5_2 a0_0 l0_1 = some r) ∧ Aside0 (kq ≤ kj2) ∧ Aside0 (w'.heap[gb101]? = some (.cells #[.int .i64 a0_0, (.slice A0_1 l0_1.length c0_1)] 31 (0, 0))) ∧ Aside0 (Below w.heap.size w w'))); case atStart => exact ⟨(1), zz7, H', ⟨Nat.le_refl _⟩, ⟨zz1⟩, ⟨zz0⟩⟩
   case round =>
    clear H'; (try clear c1); (try clear c2); (try clear p2); (try clear c5); (try clear c6); (try clear p6); (try clear c7); (try clear c7b0); (try clear c7b1); (try clear c17); (try clear hcz11_0); (try clear hcz11_1); (try clear hcz12_0); (try clear hcz12_1); (try clear hcz14_0); (try clear hcz14_1); (try clear hcz15_0); (try clear hcz15_1); (try clear hcz9_0); (try clear hcz9_1); (try clear hfz11_0); (try clear hfz11_1); (try clear hfz12_0); (try clear hfz12_1); (try clear hfz14_0); (try clear hfz14_1); (try clear hfz15_0); (try clear hfz15_1); (try clear hfz9_0); (try clear hfz9_1); (try clear p2); (try clear p6); obtain ⟨x5_2, rfl, HA, HK2, BK101, HB⟩ := hrel
    cases gk with
    | zero => exact absurd HA.out (by simp [impl_IsTree.l0])
    | succ k2 =>
     have H := HA.out; clear HA; simp only [impl_IsTree.l0] at H; by_cases c18 : x5_2 < (l1.length : Int); rotate_left
     ·rw [if_neg c18] at H; have c18b0 := decide_eq_false c18; clear c18; replace H := Option.bind_eq_some_iff.mp H; obtain ⟨t106, A260, H⟩ := H; (try dsimp only at H); have A26 := Aside0.mk A260; clear A260; replace H := Option.bind_eq_some_iff.mp H; obtain ⟨t109, A270, H⟩ := H; (try dsimp only at H); have A27 := Aside0.mk A270; clear A270; obtain rfl := Option.some.inj H; (try go_wp2); have n_ := zA2 (blk_drew BK101.out) (below_drew1 HB.out); clear BK101 HB; obtain ⟨BK101, HB⟩ := n_; refine start_ (n := 7) (S := fun w' => w'.cell? ⟨gb101, 0, none⟩ = some (.int .i64 a0_0) ∧ w'.cell? ⟨gb101, 1, none⟩ = some (.slice A0_1 l0_1.length c0_1)) (ds := []) (zM 7 0) (by kernel_rfl) rfl rfl ⟨(blk_cell BK101.out 0).trans rfl, (blk_cell BK101.out 1).trans rfl⟩ (fun hHeld => ?_); generalize wr.drew = w28 at BK101 HB hHeld ⊢; refine pure_ (i := 0) (N := some 42) (v := ?_) (a' := ?_) (zM 7 1) rfl rfl (by kernel_rfl) (fun _ _ _ h => h) (Or.inl ⟨by rfl, ?_⟩) ?_ ?_; rotate_left
      ·intro w'; exact zzT
      rotate_left
      ·exact zzS
      refine pure_ (i := 3) (N := some 45) (v := ?_) (a' := ?_) (zM 7 9) rfl rfl (by kernel_rfl) (fun _ _ _ h => h) (Or.inl ⟨by rfl, ?_⟩) ?_ ?_; rotate_left
      ·intro w'; exact zzT
      rotate_left
      ·exact zzS
      refine take_ (i := 1) (N := some 43) (v := ?_) (a' := ?_) (zM 7 11) rfl rfl (by kernel_rfl) (fun _ _ _ h => h) (Or.inl ⟨by rfl, ?_⟩) hHeld ?_ ?_; rotate_left
      ·rintro w' ⟨s0, s1⟩; exact zzT
      rotate_left
      ·exact zzS
      refine take_ (i := 2) (N := some 44) (v := ?_) (a' := ?_) (zM 7 15) rfl rfl (by kernel_rfl) (fun _ _ _ h => h) (Or.inl ⟨by rfl, ?_⟩) hHeld ?_ ?_; rotate_left
      ·rintro w' ⟨s0, s1⟩; exact zzT
      rotate_left
      ·exact zzS
      refine one_ (i := 4) (N := some 46) (zM 7 31) rfl rfl (by kernel_rfl) (by decide) (fun K hK => ?_); refine goes_ Try.func61 (by kernel_rfl) rfl #[.agg #[.int .i64 a0_0, .slice A0_1 l0_1.length c0_1], .slice A1 l1.length c1] (by rfl) rfl rfl zz3 ?_; (with_reducible refine (impl_edgesOf.calls k2 a0_0 _ _ l0_1 _ _ l1 t106 _ ?side1 ?side2 ?side3 ?side4 A26.out).mono ?_); (case side1 => exact zz8); (case side2 => exact HC0_1.out); (case side3 => exact zz21); (case side4 => exact HC1.out); rintro e w29 ⟨v107, rfl, ho0, hb⟩; refine ⟨_, rfl, ?_⟩; have n_ := zA3 (Kd.R_lower ho0 (below_size zz0)) (blk_below (g := gb101) (o := .cells #[.int .i64 a0_0, .slice A0_1 l0_1.length c0_1] 31 (0, 0)) zz1 hb) (below_step zz0 hb); clear BK101 HB; obtain ⟨HO108, BK101, HB⟩ := n_; clear ho0 hb; obtain ⟨Ao30, co30, eo30⟩ := Kd.R_slice HO108.out; (first | subst eo30 | (injection eo30 with f1_ f2_ f3_; have f4_ := f1_.symm; have f5_ := f3_.symm; clear f1_ f2_ f3_; subst f4_; subst f5_)); refine hK.out _ _ ⟨(blk_cell BK101.out 0).trans rfl, (blk_cell BK101.out 1).trans rfl⟩ (fun hHeld => ?_); clear hK K; refine norm_ (a' := ?_) ?_ ?_; rotate_left
      ·show Act.put _ (some 46) _ = _; exact zzS
      refine one_ (i := 5) (N := some 47) (zM 7 63) rfl rfl (by kernel_rfl) (by decide) (fun K hK => ?_); refine goes_ Try.func60 (by kernel_rfl) rfl #[.int .i64 a0_0, .slice Ao30 t106.length co30] (by rfl) rfl rfl zz3 ?_; (with_reducible refine (impl_connected.calls k2 a0_0 _ _ t106 t109 _ ?side1 ?side2 A27.out).mono ?_); (case side1 => repeat (first | exact (Kd.R_reads' HO108.out).2.2 | (with_reducible refine Kd.C_alloc ?_ _) | (with_reducible refine Kd.C_drewN ?_ _) | (with_reducible refine Kd.C_drew ?_))); (case side2 => exact (Kd.R_reads' HO108.out).2.1); rintro e w31 ⟨rfl, hb⟩; refine ⟨_, rfl, ?_⟩; have n_ := zA3 (Kd.R_below (by (with_reducible repeat (first | apply Kd.R_alloc | apply Kd.R_drewN | apply Kd.R_drew)); exact HO108.out) hb) (blk_below (g := gb101) (o := .cells #[.int .i64 a0_0, .slice A0_1 l0_1.length c0_1] 31 (0, 0)) zz1 hb) (below_step zz0 hb); clear HO108 BK101 HB; obtain ⟨HO108, BK101, HB⟩ := n_; clear hb; refine hK.out _ _ ⟨(blk_cell BK101.out 0).trans rfl, (blk_cell BK101.out 1).trans rfl⟩ (fun hHeld => ?_); clear hK K; refine norm_ (a' := ?_) ?_ ?_; rotate_left
      ·show Act.put _ (some 47) _ = _; exact zzS
      refine pure_ (i := 6) (N := some 4) (v := ?_) (a' := ?_) (zM 7 127) rfl rfl (by kernel_rfl) (fun _ _ _ h => h) (Or.inl ⟨by rfl, ?_⟩) ?_ ?_; rotate_left
      ·intro w'; exact zzT
      rotate_left
      ·exact zzS
      refine done_ (by kernel_rfl) ?_; (try go_wp2); go_ret; exact ⟨zz6, zz0⟩
     rw [if_pos c18] at H; have c18b0 := decide_eq_true c18; clear c18; obtain ⟨ji19, hji19⟩ : ∃ j_ : Int, (wrap64 (x5_2 - 1)) = j_ := ⟨_, rfl⟩; (replace H : (if 0 ≤ (ji19) then (if (ji19) < (l1.length : Int) then (if 0 ≤ x5_2 then (if (rd l1 (ji19)) ≥ (rd l1 x5_2) then (some false) else (impl_IsTree.l0 k2 l1 (wrap64 (x5_2 + 1)) a0_0 l0_1)) else (none)) else (none)) else (none)) = some r := by first | (rw [hji19] at H; exact H) | (simp only [hji19] at H ⊢; exact H)); have hji19w : (IntKind.i64.wrap (x5_2 - 1)) = ji19 := (i64_w _).trans hji19; by_cases c20 : 0 ≤ (ji19); rotate_left
     ·rw [if_neg c20] at H; exact absurd H (by simp)
     rw [if_pos c20] at H; have c20b0 := decide_eq_true c20; clear c20; by_cases c21 : (ji19) < (l1.length : Int); rotate_left
     ·rw [if_neg c21] at H; exact absurd H (by simp)
     rw [if_pos c21] at H; have c21b0 := decide_eq_true c21; clear c21; by_cases c22 : 0 ≤ x5_2; rotate_left
     ·rw [if_neg c22] at H; exact absurd H (by simp)
     rw [if_pos c22] at H; have c22b0 := decide_eq_true c22; clear c22; by_cases c23 : (rd l1 (ji19)) ≥ (rd l1 x5_2)
     ·rw [if_pos c23] at H; have c23b0 : decide ((rd l1 x5_2) ≤ (rd l1 (ji19))) = true := decide_eq_true c23; clear c23; obtain rfl := Option.some.inj H; (try go_wp2); have n_ := zA2 (blk_drew BK101.out) (below_drew1 HB.out); clear BK101 HB; obtain ⟨BK101, HB⟩ := n_; have p104 : 0 ≤ ((ji19) : Int) := of_decide_eq_true zz4; have q104 : (ji19) < (l1.length : Int) := of_decide_eq_true zz4; obtain ⟨ad104, e104, hx104_0⟩ := Kd.at_int HR1.out (ji19) p104 q104; have hw104_0 := hx104_0; cases e104; replace hx104_0 := (HB.out.cell (World.block_lt_of_cell? w _ hx104_0)).trans hx104_0; replace p104 := eq_true p104; replace q104 := eq_true q104; have p105 : 0 ≤ (x5_2 : Int) := of_decide_eq_true zz4; have q105 : x5_2 < (l1.length : Int) := of_decide_eq_true zz4; obtain ⟨ad105, e105, hx105_0⟩ := Kd.at_int HR1.out x5_2 p105 q105; have hw105_0 := hx105_0; obtain rfl : ad104 = ad105 := (by injection e105); replace hx105_0 := (HB.out.cell (World.block_lt_of_cell? w _ hx105_0)).trans hx105_0; replace p105 := eq_true p105; replace q105 := eq_true q105; refine start_ (n := 10) (S := fun w' => w'.cell? (ad104.add ((ji19)).toNat) = some (.int .i64 (rd l1 (ji19))) ∧ w'.cell? (ad104.add (x5_2).toNat) = some (.int .i64 (rd l1 x5_2))) (ds := []) (zM 10 0) (by kernel_rfl) rfl rfl ⟨((HB.out.cell (World.block_lt_of_cell? w _ hw104_0)).trans hw104_0), ((HB.out.cell (World.block_lt_of_cell? w _ hw105_0)).trans hw105_0)⟩ (fun hHeld => ?_); refine with_tabW impl_IsTree.tab6 impl_IsTree.bits6 (fun HT_ HW_ => ?_); generalize wr.drew = w24 at BK101 HB hx104_0 hx105_0 hHeld ⊢; refine zQ 0 32 (zM 10 1) ?_
      refine zQ 1 33 (zM 10 3) ?_
      refine zQ 2 34 (zM 10 7) ?_
      refine zQ 3 35 (zM 10 15) ?_
      refine zQ 5 37 (zM 10 47) ?_
      refine zQ 6 38 (zM 10 111) ?_
      refine zQ 7 39 (zM 10 239) ?_
      refine take_ (i := 4) (N := some 36) (v := ?_) (a' := ?_) (zM 10 255) rfl rfl (take_ofW HT_.out HW_.out (by kernel_rfl)) (fun _ _ _ h => h) (Or.inl ⟨by rfl, ?_⟩) hHeld ?_ ?_; rotate_left
      ·rintro w' ⟨s0, s1⟩; exact zzT
      rotate_left
      ·exact zzS
      refine take_ (i := 8) (N := some 40) (v := ?_) (a' := ?_) (zM 10 511) rfl rfl (take_ofW HT_.out HW_.out (by kernel_rfl)) (fun _ _ _ h => h) (Or.inl ⟨by rfl, ?_⟩) hHeld ?_ ?_; rotate_left
      ·rintro w' ⟨s0, s1⟩; exact zzT
      rotate_left
      ·exact zzS
      refine zQ 9 41 (zM 10 1023) ?_
      refine done_ (done_of HT_.out (by kernel_rfl)) ?_; (try go_wp2); go_ret; exact ⟨by first | rfl | (simp [errW_none, errW_some] <;> rfl) | (simp only [← hji19]; first | rfl | (simp [errW_none, errW_some] <;> rfl)) | (simp [*, errW_none, errW_some] <;> rfl), zz0⟩
     rw [if_neg c23] at H; have c23b0 : decide ((rd l1 x5_2) ≤ (rd l1 (ji19))) = false := decide_eq_false c23; clear c23; have H' := Aside0.mk H; clear H; (try go_wp2); have n_ := zA2 (blk_drew BK101.out) (below_drew1 HB.out); clear BK101 HB; obtain ⟨BK101, HB⟩ := n_; have p104 : 0 ≤ ((ji19) : Int) := of_decide_eq_true zz4; have q104 : (ji19) < (l1.length : Int) := of_decide_eq_true zz4; obtain ⟨ad104, e104, hx104_0⟩ := Kd.at_int HR1.out (ji19) p104 q104; have hw104_0 := hx104_0; cases e104; replace hx104_0 := (HB.out.cell (World.block_lt_of_cell? w _ hx104_0)).trans hx104_0; replace p104 := eq_true p104; replace q104 := eq_true q104; have p105 : 0 ≤ (x5_2 : Int) := of_decide_eq_true zz4; have q105 : x5_2 < (l1.length : Int) := of_decide_eq_true zz4; obtain ⟨ad105, e105, hx105_0⟩ := Kd.at_int HR1.out x5_2 p105 q105; have hw105_0 := hx105_0; obtain rfl : ad104 = ad105 := (by injection e105); replace hx105_0 := (HB.out.cell (World.block_lt_of_cell? w _ hx105_0)).trans hx105_0; replace p105 := eq_true p105; replace q105 := eq_true q105; refine start_ (n := 10) (S := fun w' => w'.cell? (ad104.add ((ji19)).toNat) = some (.int .i64 (rd l1 (ji19))) ∧ w'.cell? (ad104.add (x5_2).toNat) = some (.int .i64 (rd l1 x5_2))) (ds := []) (zM 10 0) (by kernel_rfl) rfl rfl ⟨((HB.out.cell (World.block_lt_of_cell? w _ hw104_0)).trans hw104_0), ((HB.out.cell (World.block_lt_of_cell? w _ hw105_0)).trans hw105_0)⟩ (fun hHeld => ?_); refine with_tabW impl_IsTree.tab6 impl_IsTree.bits6 (fun HT_ HW_ => ?_); generalize wr.drew = w25 at BK101 HB hx104_0 hx105_0 hHeld ⊢; refine zQ 0 32 (zM 10 1) ?_
     refine zQ 1 33 (zM 10 3) ?_
     refine zQ 2 34 (zM 10 7) ?_
     refine zQ 3 35 (zM 10 15) ?_
     refine zQ 5 37 (zM 10 47) ?_
     refine zQ 6 38 (zM 10 111) ?_
     refine zQ 7 39 (zM 10 239) ?_
     refine take_ (i := 4) (N := some 36) (v := ?_) (a' := ?_) (zM 10 255) rfl rfl (take_ofW HT_.out HW_.out (by kernel_rfl)) (fun _ _ _ h => h) (Or.inl ⟨by rfl, ?_⟩) hHeld ?_ ?_; rotate_left
     ·rintro w' ⟨s0, s1⟩; exact zzT
     rotate_left
     ·exact zzS
     refine take_ (i := 8) (N := some 40) (v := ?_) (a' := ?_) (zM 10 511) rfl rfl (take_ofW HT_.out HW_.out (by kernel_rfl)) (fun _ _ _ h => h) (Or.inl ⟨by rfl, ?_⟩) hHeld ?_ ?_; rotate_left
     ·rintro w' ⟨s0, s1⟩; exact zzT
     rotate_left
     ·exact zzS
     refine zQ 9 41 (zM 10 1023) ?_
     refine done_ (done_of HT_.out (by kernel_rfl)) ?_; (try go_wp2); go_roundg k2; (case measure => have := HJ2.out; have := HK2.out; omega); case rel => exact ⟨(wrap64 (x5_2 + 1)), zz7, H', ⟨by have := HJ2.out; have := HK2.out; omega⟩, ⟨zz1⟩, ⟨zz0⟩⟩
end Go.Proofs.Yteokcodadpjepaa.P
end

section
namespace Go.Proofs.Yteokcodadpjepaa.P
open Go.RowKit Go.Proofs.YteokcodadpjepaaW.PrintWords Go.Proofs.YteokcodadpjepaaW.PrintLast Go.Proofs.YteokcodadpjepaaW.PrintMore
attribute [local go_sem] max2_int min2_int max_two min_two max_three min_three max_four min_four
set_option linter.unusedVariables false
set_option linter.unusedSimpArgs false
def impl_oneAt.f (a0_0 : Int) (l0_1 : List (S74)) (a1 : Int) (a2 : Int) : Option (List Int) := if 0 ≤ a0_0 then (if (a0_0 : Int).toNat ≤ 35184372088832 then ((some (List.replicate (a0_0 : Int).toNat 0 : List Int)).bind fun y102 => (if 0 ≤ a1 then (if a1 < (y102.length : Int) then (some (y102.set (a1 : Int).toNat a2)) else (none)) else (none))) else (none)) else (none)
set_option maxHeartbeats 8000000 in
set_option maxRecDepth 100000 in
theorem impl_oneAt.calls (a0_0 : Int) (A0_1 : Option Addr) (c0_1 : Nat) (l0_1 : List (S74)) (a1 : Int) (a2 : Int) (r : List Int) (w : World) (hr0_1 : Kd.C k74 w A0_1 l0_1.length l0_1) (hc0_1 : l0_1.length ≤ c0_1) (h : impl_oneAt.f a0_0 l0_1 a1 a2 = some r) :
  Calls Try.prog 35 #[.agg #[.int .i64 a0_0, .slice A0_1 l0_1.length c0_1], .int .i64 a1, .int .i64 a2] w fun e w' => ∃ v0_ : Value, e = .returned (v0_) ∧ Kd.R (Kd.int .i64) 3 w' w.heap.size (fun _ => True) v0_ r ∧ Below w.heap.size w w' := by
 have hu31 := Try.underlying31; have HR0_1 := Aside0.mk hr0_1; have HC0_1 := Aside0.mk hc0_1; clear hr0_1 hc0_1; have HB := Aside0.mk (Below.refl w.heap.size w); have H : (if 0 ≤ a0_0 then (if (a0_0 : Int).toNat ≤ 35184372088832 then ((some (List.replicate (a0_0 : Int).toNat 0 : List Int)).bind fun y102 => (if 0 ≤ a1 then (if a1 < (y102.length : Int) then (some (y102.set (a1 : Int).toNat a2)) else (none)) else (none))) else (none)) else (none)) = some r := h; clear h; by_cases c4 : 0 ≤ a0_0; rotate_left
 ·rw [if_neg c4] at H; exact absurd H (by simp)
 rw [if_pos c4] at H; have c4b0 := eq_true c4; have c4b1 : decide (0 ≤ a0_0) = true := decide_eq_true c4; clear c4; by_cases c5 : (a0_0 : Int).toNat ≤ 35184372088832; rotate_left
 ·rw [if_neg c5] at H; exact absurd H (by simp)
 rw [if_pos c5] at H; have c5b0 := eq_true c5; have c5b1 : decide ((a0_0 : Int).toNat ≤ 35184372088832) = true := decide_eq_true c5; clear c5; obtain ⟨y102, hy_⟩ : ∃ y_ : List Int, y_ = (List.replicate (a0_0 : Int).toNat 0) := ⟨_, rfl⟩; (replace H : (if 0 ≤ a1 then (if a1 < (y102.length : Int) then (some (y102.set (a1 : Int).toNat a2)) else (none)) else (none)) = some r := zzY); have Ny102 := Aside0.mk hy_; clear hy_; by_cases c6 : 0 ≤ a1; rotate_left
 ·rw [if_neg c6] at H; exact absurd H (by simp)
 rw [if_pos c6] at H; have c6b0 := decide_eq_true c6; clear c6; by_cases c7 : a1 < (y102.length : Int); rotate_left
 ·rw [if_neg c7] at H; exact absurd H (by simp)
 rw [if_pos c7] at H; have c7b0 := decide_eq_true c7; clear c7; obtain ⟨y105, hy_⟩ : ∃ y_ : List Int, y_ = (y102.set (a1 : Int).toNat a2) := ⟨_, rfl⟩; (replace H : (some y105) = some r := zzY); have Ny105 := Aside0.mk hy_; clear hy_; obtain rfl := Option.some.inj H; go_enter Try.func35, Try.ntmps35; (go_wp2_with (first | ((with_reducible refine gate_dst (N := 3) rfl ?_); refine box_event ?hg (N := 3) ?hd (cs := #[.int .i64 a0_0, .slice A0_1 l0_1.length c0_1]) (t := 31) ?hr ?_; (case hd => rfl); (case hg => rfl); (case hr => exact zz9); intro gb101 hg w9 hbox hb; have n_ := zA4 (below_step zz2 hb) hbox (zz12 : w.heap.size ≤ gb101) (zz12 : w.heap.size ≤ gb101); clear HB; obtain ⟨HB, BK101, GW101, GE101⟩ := n_; clear hb hbox hg; have hcz10_0 := zC20 BK101; have hcz10_1 := zC21 BK101; have hfz10_0 := blk_frozen BK101.out 0; have hfz10_1 := blk_frozen BK101.out 1) | ((with_reducible refine gate_dst (N := 10) rfl ?_); refine Kd.R_make (Kd.int .i64) _ 3 rfl (N := 10) rfl 25 _ _ rfl a0_0 rfl rfl Try.underlying25 (.int .i64 0) 8 info3 rfl (by decide) (by omega) 0 (ok := fun _ => True) (okp := fun _ => True) rfl (fun _ hk => hk) trivial (of_decide_eq_true zz4) (Nat.le_trans (Nat.mul_le_mul_right _ (of_decide_eq_true zz4 : a0_0.toNat ≤ 35184372088832)) (by omega)) (Below.refl _ _) (Nat.le_refl _) ?_; intro v103 w11 ho12 hb hg_ hnew_; clear hg_ hnew_; (first | rw [← Ny102.out] at ho12 | (simp only [Int.reduceToNat] at ho12; rw [← Ny102.out] at ho12)); have n_ := zA3 (Kd.R_lower ho12 (below_size zz0)) (blk_below (g := gb101) (o := .cells #[.int .i64 a0_0, .slice A0_1 l0_1.length c0_1] 31 (0, 0)) zz1 hb) (below_step zz0 hb); clear BK101 HB; obtain ⟨HO104, BK101, HB⟩ := n_; clear hb ho12; have p8 : 0 ≤ (a1 : Int) := of_decide_eq_true zz4; have q8 : (a1 : Int) < ((y102.length : Int) : Int) := of_decide_eq_true zz4; obtain ⟨go8, co8, eo8, gb8, gl8, cl8, HG8⟩ := Kd.R_form HO104.out (by omega); (first | cases eo8 | (injection eo8 with ea_ en_ ec_; (first | subst ea_ | (injection ea_ with ea_; subst ea_)); subst ec_; clear en_)); have GB8 := Aside0.mk gb8; have GG8 := Aside0.mk HG8; clear gb8 gl8 HG8; obtain ⟨hx8_0, hf8_0⟩ := Kd.R_celln 0 HO104.out (a1 : Int) p8 q8; replace p8 := eq_true p8; replace q8 := eq_true q8; obtain ⟨hy13_, hz13_⟩ := Kd.R_celln 0 HO104.out (a1 : Int) (of_decide_eq_true zz4) (of_decide_eq_true zz4); have HP13 := Kd.R_putg HO104.out (a1 : Int) a2) | ((with_reducible refine gate_store (t := 3) (p := 14) rfl ?_); refine store_event (t := 3) (p := 14) (v := ?vo_w14) (w1 := (w11.setCell ⟨go8, (a1 : Int).toNat, none⟩ (.int .i64 a2))) ?hg ?ho ?hn ?hr ?_; (case ho => rfl); (case hg => rfl); (case hn => rfl); (case hr => exact zz9); intro w14 hw; have hg : w11.grownBy w14 (some go8) := (by rw [hw]; exact HP13.2); have hp_ : Kd.R (Kd.int .i64) 3 w14 w.heap.size (fun _ => True) (.slice (some ⟨go8, 0, none⟩) y102.length co8) y105 := (by rw [hw, Ny105.out]; exact HP13.1); clear HP13; have n_ := zA3 (blk_grown (g := gb101) (o := .cells #[.int .i64 a0_0, .slice A0_1 l0_1.length c0_1] 31 (0, 0)) zz1 hg (Kd.R_ne HO104.out BK101.out (by decide))) hp_ (by rw [hw]; exact below_set (HB.out) GB8.out : Below w.heap.size w w14); clear BK101 HO104 HB; obtain ⟨BK101, HO104, HB⟩ := n_; clear hg hw hp_))); go_ret; exact ⟨_, zz6, by (with_reducible repeat (first | apply Kd.R_alloc | apply Kd.R_drewN | apply Kd.R_drew)); exact HO104.out, zz0⟩
def slices_Index_int_int.l0 : Nat → List Int → Int → Int → Int → Option (Int)
 | 0, _, _, _, _ => none
 | k + 1, x0, x1, x7, x8 => if x8 < x7 then (if 0 ≤ x8 then (if x8 < (x0.length : Int) then (if x1 = (rd x0 x8) then (some x8) else (slices_Index_int_int.l0 k x0 x1 x7 (wrap64 (x8 + 1)))) else (none)) else (none)) else (some (-1))
def slices_Index_int_int.f (k : Nat) (l0 : List Int) (a1 : Int) : Option (Int) := slices_Index_int_int.l0 k l0 a1 (l0.length : Int) 0
theorem slices_Index_int_int.mono_l : ∀ k, (∀ y0 y1 y2 y3, LeO (slices_Index_int_int.l0 k y0 y1 y2 y3) (slices_Index_int_int.l0 (k + 1) y0 y1 y2 y3))
 | 0 => fun _ _ _ _ r h => by simp [slices_Index_int_int.l0] at h
 | k + 1 => by
  have ih0 := slices_Index_int_int.mono_l k
  ·intro y0 y1 y2 y3
   unfold slices_Index_int_int.l0
   exact zm1
theorem slices_Index_int_int.mono : ∀ a0 a1 k, LeO (slices_Index_int_int.f k a0 a1) (slices_Index_int_int.f (k + 1) a0 a1) := by
 intro a0 a1 k; have ih0 := slices_Index_int_int.mono_l k; unfold slices_Index_int_int.f; exact zm1
set_option maxHeartbeats 8000000 in
set_option maxRecDepth 100000 in
theorem slices_Index_int_int.calls (k : Nat) (A0 : Option Addr) (c0 : Nat) (l0 : List Int) (a1 : Int) (r : Int) (w : World) (hr0 : Kd.C (Kd.int .i64) w A0 l0.length l0) (hc0 : l0.length ≤ c0) (h : slices_Index_int_int.f k l0 a1 = some r) :
  Calls Try.prog 67 #[.slice A0 l0.length c0, .int .i64 a1] w fun e w' => e = .returned (.int .i64 r) ∧ Drawn0 w w' := by
 have HR0 := Aside0.mk hr0; have HC0 := Aside0.mk hc0; clear hr0 hc0; have H : (slices_Index_int_int.l0 k l0 a1 (l0.length : Int) 0) = some r := h; clear h; have H' := Aside0.mk H; clear H; go_enter Try.func67, Try.ntmps67; go_wp2; (go_loopg [8] k (fun kq v8 w' => ∃ (x8_1 : Int), v8 = .int .i64 x8_1 ∧ Aside0 (slices_Index_int_int.l0 kq l0 a1 (l0.length : Int) x8_1 = some r) ∧ Aside0 (kq ≤ k) ∧ Drawn0 w w')); case atStart => exact ⟨(0), zz7, H', ⟨Nat.le_refl _⟩, by repeat (first | exact Drawn0.refl _ | apply Drawn0.step)⟩
 case round =>
  clear H'; (try clear p2); obtain ⟨x8_1, rfl, HA, HK1, ⟨m1, rfl⟩⟩ := hrel
  cases gk with
  | zero => exact absurd HA.out (by simp [slices_Index_int_int.l0])
  | succ k1 =>
   have H := HA.out; clear HA; simp only [slices_Index_int_int.l0] at H; by_cases c3 : x8_1 < (l0.length : Int); rotate_left
   ·rw [if_neg c3] at H; have c3b0 := decide_eq_false c3; clear c3; obtain rfl := Option.some.inj H; go_wp2; go_ret; exact ⟨zz7, by repeat (first | exact Drawn0.refl _ | apply Drawn0.step)⟩
   rw [if_pos c3] at H; have c3b0 := decide_eq_true c3; clear c3; by_cases c4 : 0 ≤ x8_1; rotate_left
   ·rw [if_neg c4] at H; exact absurd H (by simp)
   rw [if_pos c4] at H; have c4b0 := decide_eq_true c4; clear c4; by_cases c5 : x8_1 < (l0.length : Int); rotate_left
   ·rw [if_neg c5] at H; exact absurd H (by simp)
   rw [if_pos c5] at H; have c5b0 := decide_eq_true c5; clear c5; by_cases c6 : a1 = (rd l0 x8_1)
   ·rw [if_pos c6] at H; have c6b0 : (a1 == (rd l0 x8_1)) = true := beq_iff_eq.mpr c6; have c6b1 : (a1 != (rd l0 x8_1)) = false := bne_eq_false_iff_eq.mpr c6; clear c6; obtain rfl := Option.some.inj H; have p101 : 0 ≤ (x8_1 : Int) := of_decide_eq_true zz4; have q101 : x8_1 < (l0.length : Int) := of_decide_eq_true zz4; obtain ⟨ad101, e101, hx101_0⟩ := Kd.at_int HR0.out x8_1 p101 q101; cases e101; replace p101 := eq_true p101; replace q101 := eq_true q101; go_wp2; go_ret; exact ⟨zz7, by repeat (first | exact Drawn0.refl _ | apply Drawn0.step)⟩
   rw [if_neg c6] at H; have c6b0 : (a1 == (rd l0 x8_1)) = false := beq_eq_false_iff_ne.mpr c6; have c6b1 : (a1 != (rd l0 x8_1)) = true := bne_iff_ne.mpr c6; have H' := Aside0.mk H; clear H; have p101 : 0 ≤ (x8_1 : Int) := of_decide_eq_true zz4; have q101 : x8_1 < (l0.length : Int) := of_decide_eq_true zz4; obtain ⟨ad101, e101, hx101_0⟩ := Kd.at_int HR0.out x8_1 p101 q101; cases e101; replace p101 := eq_true p101; replace q101 := eq_true q101; go_wp2; go_roundg k1; (case measure => have := HK1.out; omega); case rel => exact ⟨(wrap64 (x8_1 + 1)), zz7, H', ⟨zz39⟩, by repeat (first | exact Drawn0.refl _ | apply Drawn0.step)⟩
def slices_Contains_int_int.f (k : Nat) (l0 : List Int) (a1 : Int) : Option (Bool) := (slices_Index_int_int.f k l0 a1).bind fun t101 => (some (decide (t101 ≥ 0)))
theorem slices_Contains_int_int.mono : ∀ a0 a1 k, LeO (slices_Contains_int_int.f k a0 a1) (slices_Contains_int_int.f (k + 1) a0 a1) := by
 intro a0 a1 k; unfold slices_Contains_int_int.f; repeat' first | (with_reducible apply slices_Index_int_int.mono) | (with_reducible exact LeO.refl _) | (with_reducible exact LeO.none _) | (with_reducible refine LeO.ite ?_ ?_) | (with_reducible refine LeO.bind ?_ (fun _ => ?_)) | apply slices_Index_int_int.mono | exact LeO.none _ | refine LeO.ite ?_ ?_ | refine LeO.bind ?_ (fun _ => ?_)
set_option maxHeartbeats 8000000 in
set_option maxRecDepth 100000 in
theorem slices_Contains_int_int.calls (k : Nat) (A0 : Option Addr) (c0 : Nat) (l0 : List Int) (a1 : Int) (r : Bool) (w : World) (hr0 : Kd.C (Kd.int .i64) w A0 l0.length l0) (hc0 : l0.length ≤ c0) (h : slices_Contains_int_int.f k l0 a1 = some r) :
  Calls Try.prog 38 #[.slice A0 l0.length c0, .int .i64 a1] w fun e w' => e = .returned (.bool r) ∧ Drawn0 w w' := by
 have HR0 := Aside0.mk hr0; have HC0 := Aside0.mk hc0; clear hr0 hc0; have H : ((slices_Index_int_int.f k l0 a1).bind fun t101 => (some (decide (t101 ≥ 0)))) = some r := h; clear h; replace H := Option.bind_eq_some_iff.mp H; obtain ⟨t101, A30, H⟩ := H; (try dsimp only at H); have A3 := Aside0.mk A30; clear A30; obtain rfl := Option.some.inj H; go_enter Try.func38, Try.ntmps38; (go_wp2_with (first | ((with_reducible refine gate_callee (f := 67) rfl ?_); refine goesL_ (some 7) rfl rfl Try.func67 (by kernel_rfl) rfl #[.slice A0 l0.length c0, .int .i64 a1] rfl zz3 ?_; (with_reducible refine (slices_Index_int_int.calls k _ _ l0 a1 t101 _ ?side1 ?side2 A3.out).mono ?_); (case side1 => repeat (first | exact HR0.out | (with_reducible refine Kd.C_alloc ?_ _) | (with_reducible refine Kd.C_drewN ?_ _) | (with_reducible refine Kd.C_drew ?_))); (case side2 => exact HC0.out); rintro e w' ⟨rfl, ⟨nd, rfl⟩⟩; refine ⟨_, rfl, ?_⟩))); go_ret; exact ⟨zz7, by repeat (first | exact Drawn0.refl _ | apply Drawn0.step)⟩
end Go.Proofs.Yteokcodadpjepaa.P
end

