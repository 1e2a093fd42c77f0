/- A part of the proof of FnExactParkingOfTree. -/
import Derived.Test.YteokcodadpjepaaBFnExactParkingOfTree1
import Derived.Test.YteokcodadpjepaaBFnExactParkingOfTree0
import Derived.Deep.LoopGhost
import Derived.Deep.Slices
import Derived.Lib.SmallJoins
import Derived.ChangeSame
import Derived.Test.YteokcodadpjepaaRows
import Derived.JoinedOf
import Derived.KernelRfl
section
namespace Go.Proofs.Yteokcodadpjepaa.P
open Go.RowKit Go.Proofs.YteokcodadpjepaaW.PrintWords Go.Proofs.YteokcodadpjepaaW.PrintLast Go.Proofs.YteokcodadpjepaaW.PrintMore
attribute [local go_sem] max2_int min2_int max_two min_two max_three min_three max_four min_four
set_option linter.unusedVariables false
set_option linter.unusedSimpArgs false
/-- The walk: fuel; what burns; what each vertex has lost; the edges taken; the parking function so far. -/
def impl_ParkingOfTree.wk (es : List S74) (tree : List Int) : Nat → Nat → List Int → List Bool → List Int → Option (List Int)
 | 0, _, _, _, _ => none
 | k + 1, b, lost, tk, f => match Cf.nextE es tk b es.length 0 with
  | none => some f
  | some i => (slices_Contains_int_int.f k tree (i : Int)).bind fun t => if t = true then impl_ParkingOfTree.wk es tree k (b ||| 2 ^ Cf.otherE es b i) lost (tk.set i true) (f.set (Cf.otherE es b i) (rd lost (Cf.otherE es b i : Int))) else impl_ParkingOfTree.wk es tree k b (lost.set (Cf.otherE es b i) (wrap64 (rd lost (Cf.otherE es b i : Int) + 1))) (tk.set i true) f
set_option maxHeartbeats 8000000 in
set_option maxRecDepth 1000000 in
theorem impl_ParkingOfTree.clo (k : Nat) (At : Option Addr) (ct : Nat) (tree f : List Int) (vf : Value) (e x v : Int) (t : Bool) (b4 b8 : Nat) (w0 w : World) (Pf : Nat → Prop)
  (hT : Kd.C (Kd.int .i64) w0 At tree.length tree) (hct : tree.length ≤ ct) (hB : Below w0.heap.size w0 w)
  (h4 : w.heap[b4]? = some (.cells #[.slice At tree.length ct] 25 (0, 0))) (h8 : w.heap[b8]? = some (.cells #[vf] 25 (0, 0)))
  (hF : Kd.R (Kd.int .i64) 3 w w0.heap.size Pf vf f) (hv : 0 ≤ v ∧ v < f.length) (ht : slices_Contains_int_int.f k tree e = some t) :
  Calls Try.prog 37 #[.int .i64 e, .int .i64 v, .int .i64 x, .pointer (some ⟨b4, 0, none⟩), .pointer (some ⟨b8, 0, none⟩)] w fun e' w' => e' = .returned (.bool t) ∧ Kd.R (Kd.int .i64) 3 w' w0.heap.size Pf vf (if t = true then f.set v.toNat x else f) ∧ Below w0.heap.size w0 w' ∧ Kept w w' Pf := by
 have hz4 : w.cell? ⟨b4, 0, none⟩ = some (.slice At tree.length ct) := (blk_cell h4 0).trans rfl; obtain ⟨g, cf, eg, hgb, _⟩ := Kd.R_form hF (by omega); subst eg; have H8 := Aside0.mk h8; have HB := Aside0.mk hB; have HF := Aside0.mk hF; have HT := Aside0.mk hT; have HC := Aside0.mk hct; have HTT := Aside0.mk ht; have HGB := Aside0.mk hgb; clear h4 h8 hB hF hT hct ht hgb
 cases t with
 | false =>
  go_enter Try.func37, Try.ntmps37; (go_wp2_with fail); refine (slices_Contains_int_int.calls k _ _ tree e false _ (Kd.C_below HT.out HB.out) HC.out HTT.out).mono ?_; rintro e w1 ⟨rfl, hd⟩; have hb := Drawn0.below hd; have HF1 := Aside0.mk (Kd.R_below HF.out hb); have HB1 := Aside0.mk (below_step HB.out hb); have HK1 := Aside0.mk (Kept.of_below hb Pf); clear hd hb; go_wp2; go_ret; exact ⟨rfl, HF1.out, HB1.out, HK1.out⟩
 | true =>
  go_enter Try.func37, Try.ntmps37; (go_wp2_with fail); refine (slices_Contains_int_int.calls k _ _ tree e true _ (Kd.C_below HT.out HB.out) HC.out HTT.out).mono ?_; rintro e w1 ⟨rfl, hd⟩; have hb := Drawn0.below hd; have HF1 := Aside0.mk (Kd.R_below HF.out hb); have HB1 := Aside0.mk (below_step HB.out hb); have HK1 := Aside0.mk (Kept.of_below hb Pf); have hz8 : w1.cell? ⟨b8, 0, none⟩ = some (.slice (some ⟨g, 0, none⟩) f.length cf) := (blk_cell (blk_below H8.out hb) 0).trans rfl; obtain ⟨hx, hf⟩ := Kd.R_celln 0 HF1.out v hv.1 hv.2; have HP := Aside0.mk (Kd.R_putg HF1.out v x); have p1 : (0 : Int) ≤ v := hv.1; have p2 : v < (f.length : Int) := hv.2; clear hd hb hz4; (go_wp2_with (first | ((with_reducible refine gate_store (t := 3) (p := 16) rfl ?_); refine store_event (t := 3) (p := 16) (v := ?vo_w8) (w1 := (w1.setCell ⟨g, v.toNat, none⟩ (.int .i64 x))) ?hg ?ho ?hn ?hr ?_; (case ho => rfl); (case hg => rfl); (case hn => rfl); (case hr => exact zz9); intro w8 hw; have hp := HP.out; rw [← hw] at hp; have HF2 := Aside0.mk hp.1; have HK2 := Aside0.mk (Kept.of_grown hp.2 HK1.out fun k_ e_ => .inl (HF1.out.1 k_ e_)); have HB2 := Aside0.mk (show Below w0.heap.size w0 w8 from by rw [hw]; exact below_set HB1.out HGB.out); clear hp hw))); go_ret; exact ⟨rfl, HF2.out, HB2.out, HK2.out⟩
/-- What the walk keeps in memory. -/
structure impl_ParkingOfTree.Inv (n : Nat) (es : List S74) (A0 : Option Addr) (c0 : Nat) (tree : List Int) (At : Option Addr) (ct : Nat) (vf : Value) (b4 b8 gb : Nat) (Pf PL PT : Nat → Prop) (vl vk : Value) (w0 w3 wr : World) (lost : List Int) (tk : List Bool) (f1 : List Int) : Prop where
 hb : Below w0.heap.size w0 wr
 hz : w3.heap.size ≤ wr.heap.size
 hg : wr.heap[gb]? = some (.cells #[.int .i64 (n : Int), .slice A0 es.length c0] 31 (0, 0))
 h4 : wr.heap[b4]? = some (.cells #[.slice At tree.length ct] 25 (0, 0))
 h8 : wr.heap[b8]? = some (.cells #[vf] 25 (0, 0))
 hf : Kd.R (Kd.int .i64) 3 wr w0.heap.size Pf vf f1
 hl : Kd.R (Kd.int .i64) 3 wr w0.heap.size PL vl lost
 ht : Kd.R Kd.bool 4 wr w0.heap.size PT vk tk
theorem impl_ParkingOfTree.Inv.step {n : Nat} {es : List S74} {A0 : Option Addr} {c0 : Nat} {tree : List Int} {At : Option Addr} {ct : Nat} {vf : Value} {b4 b8 gb : Nat} {Pf PL PT : Nat → Prop} {vl vk : Value} {w0 w3 wr w' : World} {lost : List Int} {tk : List Bool} {f1 : List Int}
  (h : impl_ParkingOfTree.Inv n es A0 c0 tree At ct vf b4 b8 gb Pf PL PT vl vk w0 w3 wr lost tk f1) (hb : Below wr.heap.size wr w') : impl_ParkingOfTree.Inv n es A0 c0 tree At ct vf b4 b8 gb Pf PL PT vl vk w0 w3 w' lost tk f1 :=
 ⟨below_step h.hb hb, Nat.le_trans h.hz hb.size, blk_below h.hg hb, blk_below h.h4 hb, blk_below h.h8 hb, Kd.R_below h.hf hb, Kd.R_below h.hl hb, Kd.R_below h.ht hb⟩
set_option maxHeartbeats 8000000 in
set_option maxRecDepth 1000000 in
theorem impl_ParkingOfTree.walk (k n : Nat) (es : List S74) (A0 : Option Addr) (c0 : Nat) (tree f r : List Int) (At : Option Addr) (ct : Nat) (vf : Value) (q b4 b8 : Nat) (w0 w : World) (Pf : Nat → Prop)
  (hn : n ≤ 6) (hel : es.length ≤ 12) (hes : ∀ e ∈ es, (0 ≤ e.f0 ∧ e.f0 < n) ∧ 0 ≤ e.f1 ∧ e.f1 < n) (hq : q < n) (hf : f.length = n)
  (hE : Kd.C k74 w0 A0 es.length es) (hc0 : es.length ≤ c0) (hT : Kd.C (Kd.int .i64) w0 At tree.length tree) (hct : tree.length ≤ ct) (hB : Below w0.heap.size w0 w)
  (h4 : w.heap[b4]? = some (.cells #[.slice At tree.length ct] 25 (0, 0))) (h8 : w.heap[b8]? = some (.cells #[vf] 25 (0, 0)))
  (hF : Kd.R (Kd.int .i64) 3 w w0.heap.size Pf vf f) (hPf : ∀ k, Pf k → k < w.heap.size ∧ k ≠ b4 ∧ k ≠ b8) (h : impl_ParkingOfTree.wk es tree k (2 ^ q) (List.replicate n 0) (List.replicate es.length false) f = some r) :
  Calls Try.prog 36 #[.agg #[.int .i64 (n : Int), .slice A0 es.length c0], .int .i64 (q : Int), .func (.func 37) #[] #[.pointer (some ⟨b4, 0, none⟩), .pointer (some ⟨b8, 0, none⟩)]] w fun e' w' => (∃ v, e' = .returned v) ∧ Kd.R (Kd.int .i64) 3 w' w0.heap.size Pf vf r ∧ w'.heap[b8]? = some (.cells #[vf] 25 (0, 0)) ∧ Below w0.heap.size w0 w' := by
 have hu31 := Try.underlying31; have hu74 := Try.underlying74; have HE := Aside0.mk hE; have HC := Aside0.mk hc0; have HT := Aside0.mk hT; have HCT := Aside0.mk hct; have HPF := Aside0.mk hPf; have HES := Aside0.mk hes; have HQ := Aside0.mk (show n ≤ 6 ∧ es.length ≤ 12 ∧ q < n from ⟨hn, hel, hq⟩); have HL4 := Aside0.mk (show b4 < w.heap.size ∧ b8 < w.heap.size from ⟨blk_lt h4, blk_lt h8⟩); have H4 := Aside0.mk h4; have H8 := Aside0.mk h8; have HB := Aside0.mk hB; have HF := Aside0.mk hF; have HFL := Aside0.mk hf; have H0 := Aside0.mk h; have hq1 : shl .i64 1 (q : Int) = ((2 ^ q : Nat) : Int) := (Cf.one_at (a := (q : Int)) (by omega) (by omega)).1; (have hq0 : (0 : Int) ≤ (q : Int) := by omega); (have hqb : (q : Int) < 64 := by omega); (have hn0 : (0 : Int) ≤ (n : Int) := by omega); (have hnb : (n : Int) ≤ 6 := by omega); (have hl0 : (0 : Int) ≤ (es.length : Int) := by omega); (have hlb : (es.length : Int) ≤ 12 := by omega); clear hE hc0 hT hct hPf hes h4 h8 hB hF hf h hn hel hq; go_enter Try.func36, Try.ntmps36; (go_wp2_with (first | ((with_reducible refine gate_dst (N := 3) rfl ?_); refine box_event ?hg (N := 3) ?hd (cs := #[.int .i64 (n : Int), .slice A0 es.length c0]) (t := 31) ?hr ?_; (case hd => rfl); (case hg => rfl); (case hr => exact zz9); intro gb hg w1 hbox hb; have HG := Aside0.mk (show w.heap.size ≤ gb ∧ gb < w1.heap.size from ⟨by omega, blk_lt hbox⟩); have BG1 := Aside0.mk hbox; have B41 := Aside0.mk (blk_below H4.out hb); have B81 := Aside0.mk (blk_below H8.out hb); have HF1 := Aside0.mk (Kd.R_below HF.out hb); have HB1 := Aside0.mk (below_step HB.out hb); have hcz0 : w1.cell? ⟨gb, 0, none⟩ = some (.int .i64 (n : Int)) := (blk_cell hbox 0).trans rfl; clear hg hbox hb) | ((with_reducible refine gate_dst (N := 17) rfl ?_); refine Kd.R_make (w0 := w1) (Kd.int .i64) w1.heap.size 3 rfl (N := 17) rfl 25 _ _ rfl (n : Int) rfl rfl Try.underlying25 (.int .i64 0) 8 info3 rfl (by decide) (by omega) 0 (ok := fun _ => True) (okp := fun _ => True) rfl (fun _ hk => hk) trivial hn0 (by omega) (Below.refl _ _) (Nat.le_refl _) ?_; intro v17 w2 ho hb hg_ hnew_; rw [Int.toNat_natCast] at ho; have RL2 := Aside0.mk (Kd.R_lower (Kd.R_mono (Kd.R_bound ho) (ok' := fun k_ => w1.heap.size ≤ k_ ∧ k_ < w2.heap.size) fun k_ hk => ⟨hk.2.1, hk.2.2.1⟩) HB1.out.size); have BG2 := Aside0.mk (blk_below BG1.out hb); have B42 := Aside0.mk (blk_below B41.out hb); have B82 := Aside0.mk (blk_below B81.out hb); have HF2 := Aside0.mk (Kd.R_below HF1.out hb); have HB2 := Aside0.mk (below_step HB1.out hb); have hcz1 : w2.cell? ⟨gb, 1, none⟩ = some (.slice A0 es.length c0) := (blk_cell BG2.out 1).trans rfl; have HZ12 := Aside0.mk hb.size; clear ho hb hg_ hnew_ hcz0) | ((with_reducible refine gate_dst (N := 21) rfl ?_); refine Kd.R_make (w0 := w2) Kd.bool w2.heap.size 4 rfl (N := 21) rfl 81 _ _ rfl (es.length : Int) rfl rfl Try.underlying81 (.bool false) 1 info4 rfl (by decide) (by omega) false (ok := fun _ => True) (okp := fun _ => True) rfl (fun _ hk => hk) trivial hl0 (by omega) (Below.refl _ _) (Nat.le_refl _) ?_; intro v21 w3 ho hb hg_ hnew_; rw [Int.toNat_natCast] at ho; have RT3 := Aside0.mk (Kd.R_lower (Kd.R_mono (Kd.R_bound ho) (ok' := fun k_ => w2.heap.size ≤ k_ ∧ k_ < w3.heap.size) fun k_ hk => ⟨hk.2.1, hk.2.2.1⟩) HB2.out.size); have RL3 := Aside0.mk (Kd.R_below RL2.out hb); have BG3 := Aside0.mk (blk_below BG2.out hb); have B43 := Aside0.mk (blk_below B42.out hb); have B83 := Aside0.mk (blk_below B82.out hb); have HF3 := Aside0.mk (Kd.R_below HF2.out hb); have HB3 := Aside0.mk (below_step HB2.out hb); have HZ23 := Aside0.mk hb.size; clear ho hb hg_ hnew_ hcz1))); obtain ⟨Al, cl, el⟩ := Kd.R_slice RL3.out; subst el; obtain ⟨Ak, ck, ek⟩ := Kd.R_slice RT3.out; subst ek; rw [List.length_replicate] at RL3 RT3; rw [List.length_replicate, List.length_replicate]; have HI0 := Aside0.mk (show impl_ParkingOfTree.Inv n es A0 c0 tree At ct vf b4 b8 gb Pf (fun k_ => w1.heap.size ≤ k_ ∧ k_ < w2.heap.size) (fun k_ => w2.heap.size ≤ k_ ∧ k_ < w3.heap.size) (.slice Al n cl) (.slice Ak es.length ck) w0 w3 w3 (List.replicate n 0) (List.replicate es.length false) f from ⟨HB3.out, Nat.le_refl _, BG3.out, B43.out, B83.out, HF3.out, RL3.out, RT3.out⟩); have HQ1 := Aside0.mk (Cf.one_at (a := (q : Int)) (by omega) (by have := HQ.out; omega)).2; have HB3S := Aside0.mk HB1.out.size; clear HB3 BG3 B43 B83 HF3 RL3 RT3 HB2 BG2 B42 B82 HF2 RL2 HB1 BG1 B41 B81 HF1 H4 H8 HF HB; (try go_wp2); (go_loopg [6] k (fun kq v6 wr => ∃ (b : Nat) (lost : List Int) (tk : List Bool) (f1 : List Int), v6 = .int .i64 (b : Int) ∧ Aside0 (impl_ParkingOfTree.wk es tree kq b lost tk f1 = some r) ∧ Aside0 (kq ≤ k) ∧ Aside0 (b < 64 ∧ lost.length = n ∧ tk.length = es.length ∧ f1.length = n) ∧ Aside0 (impl_ParkingOfTree.Inv n es A0 c0 tree At ct vf b4 b8 gb Pf (fun k_ => w1.heap.size ≤ k_ ∧ k_ < w2.heap.size) (fun k_ => w2.heap.size ≤ k_ ∧ k_ < w3.heap.size) (.slice Al n cl) (.slice Ak es.length ck) w0 w3 wr lost tk f1))); case atStart => exact ⟨2 ^ q, List.replicate n 0, List.replicate es.length false, f, congrArg (Value.int .i64) (Cf.wpow (by have := HQ.out; omega)), H0, ⟨Nat.le_refl _⟩, ⟨by have := HQ1.out; rwa [Int.toNat_natCast] at this, List.length_replicate, List.length_replicate, HFL.out⟩, HI0⟩
 case round =>
  clear H0 HI0; obtain ⟨b, lost, tk, f1, rfl, HA, HK1, HN, HI⟩ := hrel
  cases gk with
  | zero => exact absurd HA.out (by simp [impl_ParkingOfTree.wk])
  | succ k1 =>
   have H := HA.out; clear HA; simp only [impl_ParkingOfTree.wk] at H; obtain ⟨nx, hnx⟩ : ∃ nx, Cf.nextE es tk b es.length 0 = nx := ⟨_, rfl⟩; rw [hnx] at H; have HX := Aside0.mk H; have HNX := Aside0.mk hnx; clear H hnx; have hcg : wr.cell? ⟨gb, 1, none⟩ = some (.slice A0 es.length c0) := (blk_cell HI.out.hg 1).trans rfl; go_wp2; (go_loopw [9, 25] (fun v9 v25 wi => ∃ i : Nat, v9 = .int .i64 (-1) ∧ v25 = .int .i64 (i : Int) ∧ Aside0 (i ≤ es.length ∧ Cf.nextE es tk b (es.length - i) i = nx) ∧ Aside0 (impl_ParkingOfTree.Inv n es A0 c0 tree At ct vf b4 b8 gb Pf (fun k_ => w1.heap.size ≤ k_ ∧ k_ < w2.heap.size) (fun k_ => w2.heap.size ≤ k_ ∧ k_ < w3.heap.size) (.slice Al n cl) (.slice Ak es.length ck) w0 w3 wi lost tk f1)) (fun _ v _ => es.length - (intOf v).toNat)); case atStart => exact ⟨0, rfl, rfl, ⟨Nat.zero_le _, HNX.out⟩, HI⟩
   case round =>
    clear hcg HI HNX; obtain ⟨i, rfl, rfl, HJ, HI⟩ := hrel; by_cases hlt : i < es.length
    ·have d0 : decide ((i : Int) < (es.length : Int)) = true := decide_eq_true (by omega); have d1 : decide (i < es.length) = true := decide_eq_true hlt; (have p1 : (0 : Int) ≤ (i : Int) := by omega); (have p2 : (i : Int) < (es.length : Int) := by omega); obtain ⟨ad, ea, hx0, hx1⟩ := at_T74 (Kd.C_below HE.out HI.out.hb) (i : Int) p1 p2; subst ea; rw [Int.toNat_natCast] at hx0 hx1; obtain ⟨e, he⟩ : ∃ e, rd_T74 es (i : Int) = e := ⟨_, rfl⟩; have heg : es.getD i ⟨0, 0⟩ = e := he; have hee := HES.out e (by rw [← heg, List.getD_eq_getElem?_getD, List.getElem?_eq_getElem hlt]; exact List.getElem_mem _); rw [he] at hx0 hx1; have HEE := Aside0.mk hee; have HEG := Aside0.mk heg; have HLT := Aside0.mk hlt; clear hee heg he hlt; obtain ⟨e0, e1⟩ := e; simp only at hx0 hx1; (go_wp2_with (first | ((with_reducible refine gate_dst (N := 11) rfl ?_); refine box_event ?hg (N := 11) ?hd (cs := #[.int .i64 0, .int .i64 0]) (t := 74) ?hr ?_; (case hd => rfl); (case hg => rfl); (case hr => exact zz9); intro ge hg wa hbox hb; have HBa := Aside0.mk hb; have HGE := Aside0.mk hg; have BE := Aside0.mk hbox; have hf0 := blk_frozen hbox 0; have hf1 := blk_frozen hbox 1; have hc0 : wa.cell? ⟨ge, 0, none⟩ = some (.int .i64 0) := (blk_cell hbox 0).trans rfl; have hc1 : wa.cell? ⟨ge, 1, none⟩ = some (.int .i64 0) := (blk_cell hbox 1).trans rfl; clear hg hbox hb) | ((with_reducible refine gate_store (t := 74) (p := 11) rfl ?_); refine store_event (t := 74) (p := 11) (v := ?vo_w8) (w1 := ((wa.setCell ⟨ge, 0, none⟩ (.int .i64 e0)).setCell ⟨ge, 1, none⟩ (.int .i64 e1))) ?hg ?ho ?hn ?hr ?_; (case ho => rfl); (case hg => rfl); (case hn => rfl); (case hr => exact zz9); intro wb hw; have hbb : Below wr.heap.size wr wb := (by rw [hw]; exact below_set (below_set HBa.out (by rw [HGE.out]; exact Nat.le_refl _)) (by rw [HGE.out]; exact Nat.le_refl _)); have HIb := Aside0.mk (HI.out.step hbb); have hbe : wb.heap[ge]? = some (.cells #[.int .i64 e0, .int .i64 e1] 74 (0, 0)) := (by rw [hw]; exact blk_set (blk_set BE.out 0 _) 1 _); have BEb := Aside0.mk hbe; have he0 : wb.cell? ⟨ge, 0, none⟩ = some (.int .i64 e0) := (blk_cell hbe 0).trans rfl; have he1 : wb.cell? ⟨ge, 1, none⟩ = some (.int .i64 e1) := (blk_cell hbe 1).trans rfl; clear hw hbb hbe hc0 hc1 hf0 hf1 HBa BE HGE))); have pe : (0 ≤ e0 ∧ e0 < (n : Int)) ∧ 0 ≤ e1 ∧ e1 < (n : Int) := HEE.out; have pe0 : (0 : Int) ≤ e0 := pe.1.1; have pe1 : (0 : Int) ≤ e1 := pe.2.1; (have pb0 : e0 < 6 := by have := HQ.out; omega); (have pb1 : e1 < 6 := by have := HQ.out; omega); clear pe; have hz0 := Cf.bit_at (m := b) HN.out.1 pe0 pb0; have hz1 := Cf.bit_at (m := b) HN.out.1 pe1 pb1; obtain ⟨z0, hz0'⟩ : ∃ z, Go.bits .and .i64 ((b : Int) / 2 ^ e0.toNat) 1 = z := ⟨_, rfl⟩; obtain ⟨z1, hz1'⟩ : ∃ z, Go.bits .and .i64 ((b : Int) / 2 ^ e1.toNat) 1 = z := ⟨_, rfl⟩; rw [hz0'] at hz0; rw [hz1'] at hz1; have HZ := Aside0.mk (show (z0 = if b.testBit e0.toNat = true then 1 else 0) ∧ (z1 = if b.testBit e1.toNat = true then 1 else 0) from ⟨hz0, hz1⟩); clear hz0 hz1; obtain ⟨gt, ckk, ek, _⟩ := Kd.R_form HIb.out.ht (by have := HN.out.2.2.1; have := HLT.out; omega); injection ek with eA eN eC; clear eN; subst eA; subst eC; obtain ⟨gl, cll, el, _⟩ := Kd.R_form HIb.out.hl (by have := HN.out.2.1; have := HQ.out; omega); injection el with eA eN eC; clear eN; subst eA; subst eC; obtain ⟨hxk, hfk⟩ := Kd.R_celln false HIb.out.ht (i : Int) p1 p2; rw [Int.toNat_natCast] at hxk hfk; obtain ⟨tb, htb⟩ : ∃ tb, rdOf false tk (i : Int) = tb := ⟨_, rfl⟩; rw [htb] at hxk; have HTB := Aside0.mk (show tk.getD i false = tb from htb); clear htb; have HCR := Aside0.mk (show Cf.crossE b (es.getD i ⟨0, 0⟩) = (z0 != z1) from by rw [HEG.out]; exact Cf.cross_z HZ.out.1 HZ.out.2)
     cases tb with
     | true =>
      (try go_wp2); (repeat (go_quiet (fail); try go_wp2)); (go_roundw); case rel => exact ⟨i + 1, rfl, by go_num, ⟨by have := HLT.out; omega, by rw [← HJ.out.2, Cf.nextE_skip HLT.out HN.out.2.2.1 (.inl HTB.out)]⟩, ⟨HIb.out.step (pw_below_drewN (Below.refl _ _) _)⟩⟩
      case measure =>
       have := HLT.out; (simp [intOf]); omega
     | false =>
      by_cases hz : z0 = z1
      ·have g0 : (z0 == z1) = true := beq_iff_eq.mpr hz; have g1 : (z0 != z1) = false := bne_eq_false_iff_eq.mpr hz; have HG1 := Aside0.mk g1; clear hz; (try go_wp2); (repeat (go_quiet (fail); try go_wp2)); (go_roundw); case rel => exact ⟨i + 1, rfl, by go_num, ⟨by have := HLT.out; omega, by rw [← HJ.out.2, Cf.nextE_skip HLT.out HN.out.2.2.1 (.inr (HCR.out.trans HG1.out))]⟩, ⟨HIb.out.step (pw_below_drewN (Below.refl _ _) _)⟩⟩
       case measure =>
        have := HLT.out; (simp [intOf]); omega
      ·have g0 : (z0 == z1) = false := beq_eq_false_iff_ne.mpr hz; have g1 : (z0 != z1) = true := bne_iff_ne.mpr hz; have hX := HX.out; rw [← HJ.out.2, Cf.nextE_hit HLT.out HN.out.2.2.1 HTB.out (HCR.out.trans g1)] at hX; replace hX := Option.bind_eq_some_iff.mp hX; obtain ⟨t, ht, hX⟩ := hX; have HTT := Aside0.mk ht; have HX2 := Aside0.mk hX; clear hz hX ht; have pq0 : e0 < (n : Int) := HEE.out.1.2; have pq1 : e1 < (n : Int) := HEE.out.2.2; by_cases hbt : b.testBit e0.toNat = true
       ·(have hz1 : z0 = 1 := by rw [HZ.out.1, if_pos hbt]); subst hz1; have HO := Aside0.mk (show Cf.otherE es b i = e1.toNat from by unfold Cf.otherE; rw [HEG.out, if_pos hbt]); clear hbt
        cases t with
        | true =>
         have hng : decide ((i : Int) < 0) = false := decide_eq_false (by omega); (try go_wp2); (go_quiet (fail)); (go_wp2_with (first | ((with_reducible refine gate_store (t := 4) (p := 54) rfl ?_); refine store_event (t := 4) (p := 54) (v := .const (.bool true)) (w1 := ?wx1_) ?hg ?ho ?hn ?hr ?_; (case ho => rfl); (case hg => rfl); (case hn => rfl); (case hr => exact zz9); intro wc hw0; obtain ⟨mq, hw⟩ : ∃ m, wc = ((wb.drewN m).setCell ⟨gt, i, none⟩ (.bool true)) := ⟨_, hw0⟩; clear hw0; have hI := HIb.out.step (pw_below_drewN (Below.refl _ _) mq); have hp := Kd.R_putg hI.ht (i : Int) true; rw [Int.toNat_natCast, ← hw] at hp; have hgt := hI.ht.1 gt rfl; have HIc := Aside0.mk (show impl_ParkingOfTree.Inv n es (some ad) c0 tree At ct vf b4 b8 gb Pf (fun k_ => w1.heap.size ≤ k_ ∧ k_ < w2.heap.size) (fun k_ => w2.heap.size ≤ k_ ∧ k_ < w3.heap.size) (.slice (some ⟨gl, 0, none⟩) n cl) (.slice (some ⟨gt, 0, none⟩) es.length ck) w0 w3 wc lost (tk.set i true) f1 from ⟨(by rw [hw]; exact below_set hI.hb (by have := HB3S.out; have := HZ12.out; show w0.heap.size ≤ gt; omega)), Nat.le_trans hI.hz hp.2.size, blk_grown hI.hg hp.2 (by have := HG.out; have := HZ12.out; intro e_; injection e_ with e_; omega), blk_grown hI.h4 hp.2 (by have := HL4.out; have := HG.out; have := HZ12.out; intro e_; injection e_ with e_; omega), blk_grown hI.h8 hp.2 (by have := HL4.out; have := HG.out; have := HZ12.out; intro e_; injection e_ with e_; omega), Kd.R_step hI.hf (fun k_ hk hlt => hp.2.block k_ hlt (by have := (HPF.out k_ hk).1; have := HG.out; have := HZ12.out; intro e_; injection e_ with e_; omega)), Kd.R_step hI.hl (fun k_ hk hlt => hp.2.block k_ hlt (by have := hk.2; intro e_; injection e_ with e_; omega)), hp.1⟩); have hcg : wc.cell? ⟨gb, 1, none⟩ = some (.slice (some ad) es.length c0) := (blk_cell HIc.out.hg 1).trans rfl; obtain ⟨ad', ea', hy0, hy1⟩ := at_T74 (Kd.C_below HE.out HIc.out.hb) (i : Int) p1 p2; injection ea' with ea'; subst ea'; rw [Int.toNat_natCast, show rd_T74 es (i : Int) = ⟨e0, e1⟩ from HEG.out] at hy0 hy1; (try simp only at hy0 hy1); obtain ⟨hlv, hlf⟩ := Kd.R_celln 0 HIc.out.hl e1 pe1 pq1; clear hw hI hp hgt hxk hfk he0 he1 hx0 hx1) | (go_at_call 37; refine (impl_ParkingOfTree.clo k1 At ct tree f1 vf (i : Int) (rdOf 0 lost e1) e1 true b4 b8 w0 wc Pf HT.out HCT.out HIc.out.hb HIc.out.h4 HIc.out.h8 HIc.out.hf ⟨pe1, by have := HN.out.2.2.2; omega⟩ HTT.out).mono ?_; rintro e_ wd ⟨rfl, hf_, hb_, hk_⟩; have HId := Aside0.mk (show impl_ParkingOfTree.Inv n es (some ad) c0 tree At ct vf b4 b8 gb Pf (fun k_ => w1.heap.size ≤ k_ ∧ k_ < w2.heap.size) (fun k_ => w2.heap.size ≤ k_ ∧ k_ < w3.heap.size) (.slice (some ⟨gl, 0, none⟩) n cl) (.slice (some ⟨gt, 0, none⟩) es.length ck) w0 w3 wd lost (tk.set i true) (f1.set e1.toNat (rdOf 0 lost e1)) from ⟨hb_, Nat.le_trans HIc.out.hz hk_.1, blk_kept HIc.out.hg hk_ (fun h_ => by have := (HPF.out _ h_).1; have := HG.out; omega), blk_kept HIc.out.h4 hk_ (fun h_ => (HPF.out _ h_).2.1 rfl), blk_kept HIc.out.h8 hk_ (fun h_ => (HPF.out _ h_).2.2 rfl), (by have h__ := hf_; first | exact h__ | (rw [if_pos rfl] at h__; exact h__) | (rw [if_neg (by simp)] at h__; exact h__)), Kd.R_step HIc.out.hl (fun k_ hk hlt => hk_.2 k_ hlt fun h_ => by have := (HPF.out _ h_).1; have := HG.out; have := hk.1; omega), Kd.R_step HIc.out.ht (fun k_ hk hlt => hk_.2 k_ hlt fun h_ => by have := (HPF.out _ h_).1; have := HG.out; have := HZ12.out; have := hk.1; omega)⟩); clear hf_ hb_ hk_ hlv hlf hcg hy0 hy1))); go_roundg k1; case measure => have := HK1.out; omega
         case rel =>
          have hX := HX2.out; (first | rw [if_pos rfl] at hX | rw [if_pos trivial] at hX); rw [HO.out, show ((e1.toNat : Nat) : Int) = e1 from Int.toNat_of_nonneg pe1] at hX; have hor := Cf.or_at (m := b) (a := e1.toNat) HN.out.1 (by omega); exact ⟨b ||| 2 ^ e1.toNat, lost, tk.set i true, f1.set e1.toNat (rd lost e1), congrArg (Value.int .i64) hor.1, ⟨hX⟩, ⟨zz39⟩, ⟨hor.2, HN.out.2.1, by rw [List.length_set]; exact HN.out.2.2.1, by rw [List.length_set]; exact HN.out.2.2.2⟩, HId⟩
        | false =>
         have hng : decide ((i : Int) < 0) = false := decide_eq_false (by omega); (try go_wp2); (go_quiet (fail)); (go_wp2_with (first | ((with_reducible refine gate_store (t := 4) (p := 54) rfl ?_); refine store_event (t := 4) (p := 54) (v := .const (.bool true)) (w1 := ?wx2_) ?hg ?ho ?hn ?hr ?_; (case ho => rfl); (case hg => rfl); (case hn => rfl); (case hr => exact zz9); intro wc hw0; obtain ⟨mq, hw⟩ : ∃ m, wc = ((wb.drewN m).setCell ⟨gt, i, none⟩ (.bool true)) := ⟨_, hw0⟩; clear hw0; have hI := HIb.out.step (pw_below_drewN (Below.refl _ _) mq); have hp := Kd.R_putg hI.ht (i : Int) true; rw [Int.toNat_natCast, ← hw] at hp; have hgt := hI.ht.1 gt rfl; have HIc := Aside0.mk (show impl_ParkingOfTree.Inv n es (some ad) c0 tree At ct vf b4 b8 gb Pf (fun k_ => w1.heap.size ≤ k_ ∧ k_ < w2.heap.size) (fun k_ => w2.heap.size ≤ k_ ∧ k_ < w3.heap.size) (.slice (some ⟨gl, 0, none⟩) n cl) (.slice (some ⟨gt, 0, none⟩) es.length ck) w0 w3 wc lost (tk.set i true) f1 from ⟨(by rw [hw]; exact below_set hI.hb (by have := HB3S.out; have := HZ12.out; show w0.heap.size ≤ gt; omega)), Nat.le_trans hI.hz hp.2.size, blk_grown hI.hg hp.2 (by have := HG.out; have := HZ12.out; intro e_; injection e_ with e_; omega), blk_grown hI.h4 hp.2 (by have := HL4.out; have := HG.out; have := HZ12.out; intro e_; injection e_ with e_; omega), blk_grown hI.h8 hp.2 (by have := HL4.out; have := HG.out; have := HZ12.out; intro e_; injection e_ with e_; omega), Kd.R_step hI.hf (fun k_ hk hlt => hp.2.block k_ hlt (by have := (HPF.out k_ hk).1; have := HG.out; have := HZ12.out; intro e_; injection e_ with e_; omega)), Kd.R_step hI.hl (fun k_ hk hlt => hp.2.block k_ hlt (by have := hk.2; intro e_; injection e_ with e_; omega)), hp.1⟩); have hcg : wc.cell? ⟨gb, 1, none⟩ = some (.slice (some ad) es.length c0) := (blk_cell HIc.out.hg 1).trans rfl; obtain ⟨ad', ea', hy0, hy1⟩ := at_T74 (Kd.C_below HE.out HIc.out.hb) (i : Int) p1 p2; injection ea' with ea'; subst ea'; rw [Int.toNat_natCast, show rd_T74 es (i : Int) = ⟨e0, e1⟩ from HEG.out] at hy0 hy1; (try simp only at hy0 hy1); obtain ⟨hlv, hlf⟩ := Kd.R_celln 0 HIc.out.hl e1 pe1 pq1; clear hw hI hp hgt hxk hfk he0 he1 hx0 hx1) | (go_at_call 37; refine (impl_ParkingOfTree.clo k1 At ct tree f1 vf (i : Int) (rdOf 0 lost e1) e1 false b4 b8 w0 wc Pf HT.out HCT.out HIc.out.hb HIc.out.h4 HIc.out.h8 HIc.out.hf ⟨pe1, by have := HN.out.2.2.2; omega⟩ HTT.out).mono ?_; rintro e_ wd ⟨rfl, hf_, hb_, hk_⟩; have HId := Aside0.mk (show impl_ParkingOfTree.Inv n es (some ad) c0 tree At ct vf b4 b8 gb Pf (fun k_ => w1.heap.size ≤ k_ ∧ k_ < w2.heap.size) (fun k_ => w2.heap.size ≤ k_ ∧ k_ < w3.heap.size) (.slice (some ⟨gl, 0, none⟩) n cl) (.slice (some ⟨gt, 0, none⟩) es.length ck) w0 w3 wd lost (tk.set i true) f1 from ⟨hb_, Nat.le_trans HIc.out.hz hk_.1, blk_kept HIc.out.hg hk_ (fun h_ => by have := (HPF.out _ h_).1; have := HG.out; omega), blk_kept HIc.out.h4 hk_ (fun h_ => (HPF.out _ h_).2.1 rfl), blk_kept HIc.out.h8 hk_ (fun h_ => (HPF.out _ h_).2.2 rfl), (by have h__ := hf_; first | exact h__ | (rw [if_pos rfl] at h__; exact h__) | (rw [if_neg (by simp)] at h__; exact h__)), Kd.R_step HIc.out.hl (fun k_ hk hlt => hk_.2 k_ hlt fun h_ => by have := (HPF.out _ h_).1; have := HG.out; have := hk.1; omega), Kd.R_step HIc.out.ht (fun k_ hk hlt => hk_.2 k_ hlt fun h_ => by have := (HPF.out _ h_).1; have := HG.out; have := HZ12.out; have := hk.1; omega)⟩); obtain ⟨hmv, hmf⟩ := Kd.R_celln 0 HId.out.hl e1 pe1 pq1; clear hf_ hb_ hk_ hlv hlf hcg hy0 hy1) | ((with_reducible refine gate_store (t := 3) (p := 89) rfl ?_); refine store_event (t := 3) (p := 89) (v := ?vo_w9) (w1 := (wd.setCell ⟨gl, e1.toNat, none⟩ (.int .i64 (wrap64 (rdOf 0 lost e1 + 1))))) ?hg ?ho ?hn ?hr ?_; (case ho => rfl); (case hg => rfl); (case hn => rfl); (case hr => exact zz9); intro we hw; have hp := Kd.R_putg HId.out.hl e1 (wrap64 (rdOf 0 lost e1 + 1)); rw [← hw] at hp; have hgl := HId.out.hl.1 gl rfl; have HIe := Aside0.mk (show impl_ParkingOfTree.Inv n es (some ad) c0 tree At ct vf b4 b8 gb Pf (fun k_ => w1.heap.size ≤ k_ ∧ k_ < w2.heap.size) (fun k_ => w2.heap.size ≤ k_ ∧ k_ < w3.heap.size) (.slice (some ⟨gl, 0, none⟩) n cl) (.slice (some ⟨gt, 0, none⟩) es.length ck) w0 w3 we (lost.set e1.toNat (wrap64 (rdOf 0 lost e1 + 1))) (tk.set i true) f1 from ⟨(by rw [hw]; exact below_set HId.out.hb (by have := HB3S.out; show w0.heap.size ≤ gl; omega)), Nat.le_trans HId.out.hz hp.2.size, blk_grown HId.out.hg hp.2 (by have := HG.out; intro e_; injection e_ with e_; omega), blk_grown HId.out.h4 hp.2 (by have := HL4.out; have := HG.out; intro e_; injection e_ with e_; omega), blk_grown HId.out.h8 hp.2 (by have := HL4.out; have := HG.out; intro e_; injection e_ with e_; omega), Kd.R_step HId.out.hf (fun k_ hk hlt => hp.2.block k_ hlt (by have := (HPF.out k_ hk).1; have := HG.out; intro e_; injection e_ with e_; omega)), hp.1, Kd.R_step HId.out.ht (fun k_ hk hlt => hp.2.block k_ hlt (by have := hk.1; intro e_; injection e_ with e_; omega))⟩); clear hw hp hgl hmv hmf))); go_roundg k1; case measure => have := HK1.out; omega
         case rel =>
          have hX := HX2.out; rw [if_neg (by simp)] at hX; rw [HO.out, show ((e1.toNat : Nat) : Int) = e1 from Int.toNat_of_nonneg pe1] at hX; exact ⟨b, lost.set e1.toNat (wrap64 (rd lost e1 + 1)), tk.set i true, f1, rfl, ⟨hX⟩, ⟨zz39⟩, ⟨HN.out.1, by rw [List.length_set]; exact HN.out.2.1, by rw [List.length_set]; exact HN.out.2.2.1, HN.out.2.2.2⟩, HIe⟩
       ·(have hz1 : z0 = 0 := by rw [HZ.out.1, if_neg hbt]); subst hz1; have HO := Aside0.mk (show Cf.otherE es b i = e0.toNat from by unfold Cf.otherE; rw [HEG.out, if_neg hbt]); clear hbt
        cases t with
        | true =>
         have hng : decide ((i : Int) < 0) = false := decide_eq_false (by omega); (try go_wp2); (go_quiet (fail)); (go_wp2_with (first | ((with_reducible refine gate_store (t := 4) (p := 54) rfl ?_); refine store_event (t := 4) (p := 54) (v := .const (.bool true)) (w1 := ?wx3_) ?hg ?ho ?hn ?hr ?_; (case ho => rfl); (case hg => rfl); (case hn => rfl); (case hr => exact zz9); intro wc hw0; obtain ⟨mq, hw⟩ : ∃ m, wc = ((wb.drewN m).setCell ⟨gt, i, none⟩ (.bool true)) := ⟨_, hw0⟩; clear hw0; have hI := HIb.out.step (pw_below_drewN (Below.refl _ _) mq); have hp := Kd.R_putg hI.ht (i : Int) true; rw [Int.toNat_natCast, ← hw] at hp; have hgt := hI.ht.1 gt rfl; have HIc := Aside0.mk (show impl_ParkingOfTree.Inv n es (some ad) c0 tree At ct vf b4 b8 gb Pf (fun k_ => w1.heap.size ≤ k_ ∧ k_ < w2.heap.size) (fun k_ => w2.heap.size ≤ k_ ∧ k_ < w3.heap.size) (.slice (some ⟨gl, 0, none⟩) n cl) (.slice (some ⟨gt, 0, none⟩) es.length ck) w0 w3 wc lost (tk.set i true) f1 from ⟨(by rw [hw]; exact below_set hI.hb (by have := HB3S.out; have := HZ12.out; show w0.heap.size ≤ gt; omega)), Nat.le_trans hI.hz hp.2.size, blk_grown hI.hg hp.2 (by have := HG.out; have := HZ12.out; intro e_; injection e_ with e_; omega), blk_grown hI.h4 hp.2 (by have := HL4.out; have := HG.out; have := HZ12.out; intro e_; injection e_ with e_; omega), blk_grown hI.h8 hp.2 (by have := HL4.out; have := HG.out; have := HZ12.out; intro e_; injection e_ with e_; omega), Kd.R_step hI.hf (fun k_ hk hlt => hp.2.block k_ hlt (by have := (HPF.out k_ hk).1; have := HG.out; have := HZ12.out; intro e_; injection e_ with e_; omega)), Kd.R_step hI.hl (fun k_ hk hlt => hp.2.block k_ hlt (by have := hk.2; intro e_; injection e_ with e_; omega)), hp.1⟩); have hcg : wc.cell? ⟨gb, 1, none⟩ = some (.slice (some ad) es.length c0) := (blk_cell HIc.out.hg 1).trans rfl; obtain ⟨ad', ea', hy0, hy1⟩ := at_T74 (Kd.C_below HE.out HIc.out.hb) (i : Int) p1 p2; injection ea' with ea'; subst ea'; rw [Int.toNat_natCast, show rd_T74 es (i : Int) = ⟨e0, e1⟩ from HEG.out] at hy0 hy1; (try simp only at hy0 hy1); obtain ⟨hlv, hlf⟩ := Kd.R_celln 0 HIc.out.hl e0 pe0 pq0; clear hw hI hp hgt hxk hfk he0 he1 hx0 hx1) | (go_at_call 37; refine (impl_ParkingOfTree.clo k1 At ct tree f1 vf (i : Int) (rdOf 0 lost e0) e0 true b4 b8 w0 wc Pf HT.out HCT.out HIc.out.hb HIc.out.h4 HIc.out.h8 HIc.out.hf ⟨pe0, by have := HN.out.2.2.2; omega⟩ HTT.out).mono ?_; rintro e_ wd ⟨rfl, hf_, hb_, hk_⟩; have HId := Aside0.mk (show impl_ParkingOfTree.Inv n es (some ad) c0 tree At ct vf b4 b8 gb Pf (fun k_ => w1.heap.size ≤ k_ ∧ k_ < w2.heap.size) (fun k_ => w2.heap.size ≤ k_ ∧ k_ < w3.heap.size) (.slice (some ⟨gl, 0, none⟩) n cl) (.slice (some ⟨gt, 0, none⟩) es.length ck) w0 w3 wd lost (tk.set i true) (f1.set e0.toNat (rdOf 0 lost e0)) from ⟨hb_, Nat.le_trans HIc.out.hz hk_.1, blk_kept HIc.out.hg hk_ (fun h_ => by have := (HPF.out _ h_).1; have := HG.out; omega), blk_kept HIc.out.h4 hk_ (fun h_ => (HPF.out _ h_).2.1 rfl), blk_kept HIc.out.h8 hk_ (fun h_ => (HPF.out _ h_).2.2 rfl), (by have h__ := hf_; first | exact h__ | (rw [if_pos rfl] at h__; exact h__) | (rw [if_neg (by simp)] at h__; exact h__)), Kd.R_step HIc.out.hl (fun k_ hk hlt => hk_.2 k_ hlt fun h_ => by have := (HPF.out _ h_).1; have := HG.out; have := hk.1; omega), Kd.R_step HIc.out.ht (fun k_ hk hlt => hk_.2 k_ hlt fun h_ => by have := (HPF.out _ h_).1; have := HG.out; have := HZ12.out; have := hk.1; omega)⟩); clear hf_ hb_ hk_ hlv hlf hcg hy0 hy1))); go_roundg k1; case measure => have := HK1.out; omega
         case rel =>
          have hX := HX2.out; (first | rw [if_pos rfl] at hX | rw [if_pos trivial] at hX); rw [HO.out, show ((e0.toNat : Nat) : Int) = e0 from Int.toNat_of_nonneg pe0] at hX; have hor := Cf.or_at (m := b) (a := e0.toNat) HN.out.1 (by omega); exact ⟨b ||| 2 ^ e0.toNat, lost, tk.set i true, f1.set e0.toNat (rd lost e0), congrArg (Value.int .i64) hor.1, ⟨hX⟩, ⟨zz39⟩, ⟨hor.2, HN.out.2.1, by rw [List.length_set]; exact HN.out.2.2.1, by rw [List.length_set]; exact HN.out.2.2.2⟩, HId⟩
        | false =>
         have hng : decide ((i : Int) < 0) = false := decide_eq_false (by omega); (try go_wp2); (go_quiet (fail)); (go_wp2_with (first | ((with_reducible refine gate_store (t := 4) (p := 54) rfl ?_); refine store_event (t := 4) (p := 54) (v := .const (.bool true)) (w1 := ?wx4_) ?hg ?ho ?hn ?hr ?_; (case ho => rfl); (case hg => rfl); (case hn => rfl); (case hr => exact zz9); intro wc hw0; obtain ⟨mq, hw⟩ : ∃ m, wc = ((wb.drewN m).setCell ⟨gt, i, none⟩ (.bool true)) := ⟨_, hw0⟩; clear hw0; have hI := HIb.out.step (pw_below_drewN (Below.refl _ _) mq); have hp := Kd.R_putg hI.ht (i : Int) true; rw [Int.toNat_natCast, ← hw] at hp; have hgt := hI.ht.1 gt rfl; have HIc := Aside0.mk (show impl_ParkingOfTree.Inv n es (some ad) c0 tree At ct vf b4 b8 gb Pf (fun k_ => w1.heap.size ≤ k_ ∧ k_ < w2.heap.size) (fun k_ => w2.heap.size ≤ k_ ∧ k_ < w3.heap.size) (.slice (some ⟨gl, 0, none⟩) n cl) (.slice (some ⟨gt, 0, none⟩) es.length ck) w0 w3 wc lost (tk.set i true) f1 from ⟨(by rw [hw]; exact below_set hI.hb (by have := HB3S.out; have := HZ12.out; show w0.heap.size ≤ gt; omega)), Nat.le_trans hI.hz hp.2.size, blk_grown hI.hg hp.2 (by have := HG.out; have := HZ12.out; intro e_; injection e_ with e_; omega), blk_grown hI.h4 hp.2 (by have := HL4.out; have := HG.out; have := HZ12.out; intro e_; injection e_ with e_; omega), blk_grown hI.h8 hp.2 (by have := HL4.out; have := HG.out; have := HZ12.out; intro e_; injection e_ with e_; omega), Kd.R_step hI.hf (fun k_ hk hlt => hp.2.block k_ hlt (by have := (HPF.out k_ hk).1; have := HG.out; have := HZ12.out; intro e_; injection e_ with e_; omega)), Kd.R_step hI.hl (fun k_ hk hlt => hp.2.block k_ hlt (by have := hk.2; intro e_; injection e_ with e_; omega)), hp.1⟩); have hcg : wc.cell? ⟨gb, 1, none⟩ = some (.slice (some ad) es.length c0) := (blk_cell HIc.out.hg 1).trans rfl; obtain ⟨ad', ea', hy0, hy1⟩ := at_T74 (Kd.C_below HE.out HIc.out.hb) (i : Int) p1 p2; injection ea' with ea'; subst ea'; rw [Int.toNat_natCast, show rd_T74 es (i : Int) = ⟨e0, e1⟩ from HEG.out] at hy0 hy1; (try simp only at hy0 hy1); obtain ⟨hlv, hlf⟩ := Kd.R_celln 0 HIc.out.hl e0 pe0 pq0; clear hw hI hp hgt hxk hfk he0 he1 hx0 hx1) | (go_at_call 37; refine (impl_ParkingOfTree.clo k1 At ct tree f1 vf (i : Int) (rdOf 0 lost e0) e0 false b4 b8 w0 wc Pf HT.out HCT.out HIc.out.hb HIc.out.h4 HIc.out.h8 HIc.out.hf ⟨pe0, by have := HN.out.2.2.2; omega⟩ HTT.out).mono ?_; rintro e_ wd ⟨rfl, hf_, hb_, hk_⟩; have HId := Aside0.mk (show impl_ParkingOfTree.Inv n es (some ad) c0 tree At ct vf b4 b8 gb Pf (fun k_ => w1.heap.size ≤ k_ ∧ k_ < w2.heap.size) (fun k_ => w2.heap.size ≤ k_ ∧ k_ < w3.heap.size) (.slice (some ⟨gl, 0, none⟩) n cl) (.slice (some ⟨gt, 0, none⟩) es.length ck) w0 w3 wd lost (tk.set i true) f1 from ⟨hb_, Nat.le_trans HIc.out.hz hk_.1, blk_kept HIc.out.hg hk_ (fun h_ => by have := (HPF.out _ h_).1; have := HG.out; omega), blk_kept HIc.out.h4 hk_ (fun h_ => (HPF.out _ h_).2.1 rfl), blk_kept HIc.out.h8 hk_ (fun h_ => (HPF.out _ h_).2.2 rfl), (by have h__ := hf_; first | exact h__ | (rw [if_pos rfl] at h__; exact h__) | (rw [if_neg (by simp)] at h__; exact h__)), Kd.R_step HIc.out.hl (fun k_ hk hlt => hk_.2 k_ hlt fun h_ => by have := (HPF.out _ h_).1; have := HG.out; have := hk.1; omega), Kd.R_step HIc.out.ht (fun k_ hk hlt => hk_.2 k_ hlt fun h_ => by have := (HPF.out _ h_).1; have := HG.out; have := HZ12.out; have := hk.1; omega)⟩); obtain ⟨hmv, hmf⟩ := Kd.R_celln 0 HId.out.hl e0 pe0 pq0; clear hf_ hb_ hk_ hlv hlf hcg hy0 hy1) | ((with_reducible refine gate_store (t := 3) (p := 89) rfl ?_); refine store_event (t := 3) (p := 89) (v := ?vo_w9) (w1 := (wd.setCell ⟨gl, e0.toNat, none⟩ (.int .i64 (wrap64 (rdOf 0 lost e0 + 1))))) ?hg ?ho ?hn ?hr ?_; (case ho => rfl); (case hg => rfl); (case hn => rfl); (case hr => exact zz9); intro we hw; have hp := Kd.R_putg HId.out.hl e0 (wrap64 (rdOf 0 lost e0 + 1)); rw [← hw] at hp; have hgl := HId.out.hl.1 gl rfl; have HIe := Aside0.mk (show impl_ParkingOfTree.Inv n es (some ad) c0 tree At ct vf b4 b8 gb Pf (fun k_ => w1.heap.size ≤ k_ ∧ k_ < w2.heap.size) (fun k_ => w2.heap.size ≤ k_ ∧ k_ < w3.heap.size) (.slice (some ⟨gl, 0, none⟩) n cl) (.slice (some ⟨gt, 0, none⟩) es.length ck) w0 w3 we (lost.set e0.toNat (wrap64 (rdOf 0 lost e0 + 1))) (tk.set i true) f1 from ⟨(by rw [hw]; exact below_set HId.out.hb (by have := HB3S.out; show w0.heap.size ≤ gl; omega)), Nat.le_trans HId.out.hz hp.2.size, blk_grown HId.out.hg hp.2 (by have := HG.out; intro e_; injection e_ with e_; omega), blk_grown HId.out.h4 hp.2 (by have := HL4.out; have := HG.out; intro e_; injection e_ with e_; omega), blk_grown HId.out.h8 hp.2 (by have := HL4.out; have := HG.out; intro e_; injection e_ with e_; omega), Kd.R_step HId.out.hf (fun k_ hk hlt => hp.2.block k_ hlt (by have := (HPF.out k_ hk).1; have := HG.out; intro e_; injection e_ with e_; omega)), hp.1, Kd.R_step HId.out.ht (fun k_ hk hlt => hp.2.block k_ hlt (by have := hk.1; intro e_; injection e_ with e_; omega))⟩); clear hw hp hgl hmv hmf))); go_roundg k1; case measure => have := HK1.out; omega
         case rel =>
          have hX := HX2.out; rw [if_neg (by simp)] at hX; rw [HO.out, show ((e0.toNat : Nat) : Int) = e0 from Int.toNat_of_nonneg pe0] at hX; exact ⟨b, lost.set e0.toNat (wrap64 (rd lost e0 + 1)), tk.set i true, f1, rfl, ⟨hX⟩, ⟨zz39⟩, ⟨HN.out.1, by rw [List.length_set]; exact HN.out.2.1, by rw [List.length_set]; exact HN.out.2.2.1, HN.out.2.2.2⟩, HIe⟩
    ·have d0 : decide ((i : Int) < (es.length : Int)) = false := decide_eq_false (by omega); have d1 : decide (i < es.length) = false := decide_eq_false hlt; have hX := HX.out; have hJ := HJ.out; rw [show es.length - i = 0 by omega] at hJ; rw [← hJ.2] at hX; obtain rfl := Option.some.inj hX; clear hX hJ hlt; go_wp2; (first | go_end0 | ((try simp only [Exit.inBlock, Exit.then]); refine bodyPost_ret (results_none rfl _ _ _) rfl ?_)); exact ⟨⟨_, rfl⟩, HI.out.hf, HI.out.h8, HI.out.hb⟩
def impl_ParkingOfTree.f (k : Nat) (a0_0 : Int) (l0_1 : List S74) (l1 : List Int) (a2 : Int) : Option (List Int × Bool) :=
 (impl_IsTree.f k a0_0 l0_1 l1).bind fun t => if t = true then (impl_within.f a2 0 (wrap64 (a0_0 - 1))).bind fun u => if u = true then (impl_oneAt.f a0_0 l0_1 a2 (-1)).bind fun f0 => if (0 ≤ a0_0 ∧ a0_0 ≤ 6) ∧ l0_1.length ≤ 12 ∧ (0 ≤ a2 ∧ a2 < a0_0) ∧ f0.length = a0_0.toNat ∧ ∀ e ∈ l0_1, (0 ≤ e.f0 ∧ e.f0 < a0_0) ∧ 0 ≤ e.f1 ∧ e.f1 < a0_0 then (impl_ParkingOfTree.wk l0_1 l1 k (2 ^ a2.toNat) (List.replicate a0_0.toNat 0) (List.replicate l0_1.length false) f0).bind fun r => some (r, true) else none else some ([], false) else some ([], false)
theorem impl_ParkingOfTree.mono_wk (es : List S74) (tree : List Int) : ∀ k b lost tk f, LeO (impl_ParkingOfTree.wk es tree k b lost tk f) (impl_ParkingOfTree.wk es tree (k + 1) b lost tk f)
 | 0, _, _, _, _ => fun r h => by cases h
 | k + 1, b, lost, tk, f => by
  unfold impl_ParkingOfTree.wk
  cases Cf.nextE es tk b es.length 0 with
  | none => exact LeO.refl _
  | some i => exact LeO.bind (slices_Contains_int_int.mono _ _ k) fun t => LeO.ite (impl_ParkingOfTree.mono_wk es tree k _ _ _ _) (impl_ParkingOfTree.mono_wk es tree k _ _ _ _)
theorem impl_ParkingOfTree.mono : ∀ a0 a1 a2 a3 k, LeO (impl_ParkingOfTree.f k a0 a1 a2 a3) (impl_ParkingOfTree.f (k + 1) a0 a1 a2 a3) := by
 intro a0 a1 a2 a3 k; unfold impl_ParkingOfTree.f; exact LeO.bind (impl_IsTree.mono _ _ _ k) fun t => LeO.ite (LeO.bind (LeO.refl _) fun u => LeO.ite (LeO.bind (LeO.refl _) fun f0 => LeO.ite (LeO.bind (impl_ParkingOfTree.mono_wk _ _ _ _ _ _ _) fun r => LeO.refl _) (LeO.refl _)) (LeO.refl _)) (LeO.refl _)
set_option maxHeartbeats 8000000 in
set_option maxRecDepth 1000000 in
theorem impl_ParkingOfTree.calls (k : Nat) (a0_0 : Int) (A0_1 : Option Addr) (c0_1 : Nat) (l0_1 : List S74) (A1 : Option Addr) (c1 : Nat) (l1 : List Int) (a2 : Int) (r1 : List Int) (r2 : Bool) (w : World) (hr0_1 : Kd.C k74 w A0_1 l0_1.length l0_1) (hc0_1 : l0_1.length ≤ c0_1) (hr1 : Kd.C (Kd.int .i64) w A1 l1.length l1) (hc1 : l1.length ≤ c1) (h : impl_ParkingOfTree.f k a0_0 l0_1 l1 a2 = some (r1, r2)) :
  Calls Try.prog 11 #[.agg #[.int .i64 a0_0, .slice A0_1 l0_1.length c0_1], .slice A1 l1.length c1, .int .i64 a2] w fun e w' => ∃ v0_ : Value, e = .returned (.tuple #[v0_, .bool r2]) ∧ Kd.R (Kd.int .i64) 3 w' w.heap.size (fun _ => True) v0_ r1 ∧ Below w.heap.size w w' := by
 have hu31 := Try.underlying31; have HE := Aside0.mk hr0_1; have HC := Aside0.mk hc0_1; have HT := Aside0.mk hr1; have HCT := Aside0.mk hc1; clear hr0_1 hc0_1 hr1 hc1; unfold impl_ParkingOfTree.f at h; replace h := Option.bind_eq_some_iff.mp h; obtain ⟨t, ht, h⟩ := h; have HTT := Aside0.mk ht; clear ht; have hmf : ∀ (fn : Fn) (first cap : Array Value) (w : World), (Instr.makeFunc fn first cap).run Try.prog w = .ok (.func fn first cap) w := fun _ _ _ _ => rfl
 cases t with
 | false =>
  rw [if_neg (by simp)] at h; obtain ⟨rfl, rfl⟩ := Prod.mk.inj (Option.some.inj h); clear h; go_enter Try.func11, Try.ntmps11; (go_wp2_with (first | ((with_reducible refine gate_dst (N := 3) rfl ?_); refine box_event ?hg (N := 3) ?hd (cs := #[.int .i64 a0_0, .slice A0_1 l0_1.length c0_1]) (t := 31) ?hr ?_; (case hd => rfl); (case hg => rfl); (case hr => exact zz9); intro gg hg w1 hbox hb; have BG1 := Aside0.mk hbox; have HB1 := Aside0.mk hb; clear hg hbox hb) | ((with_reducible refine gate_dst (N := 4) rfl ?_); refine box_event ?hg (N := 4) ?hd (cs := #[.slice A1 l1.length c1]) (t := 25) ?hr ?_; (case hd => rfl); (case hg => rfl); (case hr => exact zz9); intro gt4 hg w2 hbox hb; have B42 := Aside0.mk hbox; have BG2 := Aside0.mk (blk_below BG1.out hb); have HB2 := Aside0.mk (below_step HB1.out hb); have hz0 : w2.cell? ⟨gg, 0, none⟩ = some (.int .i64 a0_0) := (blk_cell BG2.out 0).trans rfl; have hz1 : w2.cell? ⟨gg, 1, none⟩ = some (.slice A0_1 l0_1.length c0_1) := (blk_cell BG2.out 1).trans rfl; have hz4 : w2.cell? ⟨gt4, 0, none⟩ = some (.slice A1 l1.length c1) := (blk_cell B42.out 0).trans rfl; clear hg hbox hb))); refine (impl_IsTree.calls k a0_0 _ _ l0_1 _ _ l1 false _ (Kd.C_below HE.out HB2.out) HC.out (Kd.C_below HT.out HB2.out) HCT.out HTT.out).mono ?_; rintro e w3 ⟨rfl, hb⟩; have HB3 := Aside0.mk (below_step HB2.out hb); clear hb; go_wp2; (go_ret2); exact ⟨_, rfl, Kd.R_nil _ _ _ _ _, HB3.out⟩
 | true =>
  rw [if_pos rfl] at h; replace h := Option.bind_eq_some_iff.mp h; obtain ⟨u, hu, h⟩ := h; have HU := Aside0.mk hu; clear hu
  cases u with
  | false =>
   rw [if_neg (by simp)] at h; obtain ⟨rfl, rfl⟩ := Prod.mk.inj (Option.some.inj h); clear h; go_enter Try.func11, Try.ntmps11; (go_wp2_with (first | ((with_reducible refine gate_dst (N := 3) rfl ?_); refine box_event ?hg (N := 3) ?hd (cs := #[.int .i64 a0_0, .slice A0_1 l0_1.length c0_1]) (t := 31) ?hr ?_; (case hd => rfl); (case hg => rfl); (case hr => exact zz9); intro gg hg w1 hbox hb; have BG1 := Aside0.mk hbox; have HB1 := Aside0.mk hb; clear hg hbox hb) | ((with_reducible refine gate_dst (N := 4) rfl ?_); refine box_event ?hg (N := 4) ?hd (cs := #[.slice A1 l1.length c1]) (t := 25) ?hr ?_; (case hd => rfl); (case hg => rfl); (case hr => exact zz9); intro gt4 hg w2 hbox hb; have B42 := Aside0.mk hbox; have BG2 := Aside0.mk (blk_below BG1.out hb); have HB2 := Aside0.mk (below_step HB1.out hb); have hz0 : w2.cell? ⟨gg, 0, none⟩ = some (.int .i64 a0_0) := (blk_cell BG2.out 0).trans rfl; have hz1 : w2.cell? ⟨gg, 1, none⟩ = some (.slice A0_1 l0_1.length c0_1) := (blk_cell BG2.out 1).trans rfl; have hz4 : w2.cell? ⟨gt4, 0, none⟩ = some (.slice A1 l1.length c1) := (blk_cell B42.out 0).trans rfl; clear hg hbox hb))); refine (impl_IsTree.calls k a0_0 _ _ l0_1 _ _ l1 true _ (Kd.C_below HE.out HB2.out) HC.out (Kd.C_below HT.out HB2.out) HCT.out HTT.out).mono ?_; rintro e w3 ⟨rfl, hb⟩; have HB3 := Aside0.mk (below_step HB2.out hb); have hcz0 : w3.cell? ⟨gg, 0, none⟩ = some (.int .i64 a0_0) := (blk_cell (blk_below BG2.out hb) 0).trans rfl; clear hb hz0 hz1 hz4; (go_wp2_with fail); refine (impl_within.calls _ _ _ false _ HU.out).mono ?_; rintro e w4 ⟨rfl, hd⟩; have HB4 := Aside0.mk (below_step HB3.out (Drawn0.below hd)); clear hd; go_wp2; (go_ret2); exact ⟨_, rfl, Kd.R_nil _ _ _ _ _, HB4.out⟩
  | true =>
   rw [if_pos rfl] at h; replace h := Option.bind_eq_some_iff.mp h; obtain ⟨f0, hf0, h⟩ := h; have HF0 := Aside0.mk hf0; clear hf0; (split at h); (case isFalse => cases h); rename_i hc; replace h := Option.bind_eq_some_iff.mp h; obtain ⟨r, hw, h⟩ := h; obtain ⟨rfl, rfl⟩ := Prod.mk.inj (Option.some.inj h); clear h; obtain ⟨⟨hn0, hn6⟩, hel, ⟨hq0, hqn⟩, hfl, hes⟩ := hc; obtain ⟨n, rfl⟩ := Int.eq_ofNat_of_zero_le hn0; obtain ⟨q, rfl⟩ := Int.eq_ofNat_of_zero_le hq0; rw [Int.toNat_natCast] at hfl; rw [Int.toNat_natCast, Int.toNat_natCast] at hw; have HWK := Aside0.mk hw; have HALL := Aside0.mk (show n ≤ 6 ∧ l0_1.length ≤ 12 ∧ q < n ∧ f0.length = n ∧ ∀ e ∈ l0_1, (0 ≤ e.f0 ∧ e.f0 < (n : Int)) ∧ 0 ≤ e.f1 ∧ e.f1 < (n : Int) from ⟨by omega, hel, by omega, hfl, hes⟩); clear hw hn0 hn6 hel hq0 hqn hfl hes; go_enter Try.func11, Try.ntmps11; (go_wp2_with (first | ((with_reducible refine gate_dst (N := 3) rfl ?_); refine box_event ?hg (N := 3) ?hd (cs := #[.int .i64 (n : Int), .slice A0_1 l0_1.length c0_1]) (t := 31) ?hr ?_; (case hd => rfl); (case hg => rfl); (case hr => exact zz9); intro gg hg w1 hbox hb; have BG1 := Aside0.mk hbox; have HB1 := Aside0.mk hb; clear hg hbox hb) | ((with_reducible refine gate_dst (N := 4) rfl ?_); refine box_event ?hg (N := 4) ?hd (cs := #[.slice A1 l1.length c1]) (t := 25) ?hr ?_; (case hd => rfl); (case hg => rfl); (case hr => exact zz9); intro gt4 hg w2 hbox hb; have B42 := Aside0.mk hbox; have BG2 := Aside0.mk (blk_below BG1.out hb); have HB2 := Aside0.mk (below_step HB1.out hb); have hz0 : w2.cell? ⟨gg, 0, none⟩ = some (.int .i64 (n : Int)) := (blk_cell BG2.out 0).trans rfl; have hz1 : w2.cell? ⟨gg, 1, none⟩ = some (.slice A0_1 l0_1.length c0_1) := (blk_cell BG2.out 1).trans rfl; have hz4 : w2.cell? ⟨gt4, 0, none⟩ = some (.slice A1 l1.length c1) := (blk_cell B42.out 0).trans rfl; clear hg hbox hb))); refine (impl_IsTree.calls k (n : Int) _ _ l0_1 _ _ l1 true _ (Kd.C_below HE.out HB2.out) HC.out (Kd.C_below HT.out HB2.out) HCT.out HTT.out).mono ?_; rintro e w3 ⟨rfl, hb⟩; have HB3 := Aside0.mk (below_step HB2.out hb); have BG3 := Aside0.mk (blk_below BG2.out hb); have B43 := Aside0.mk (blk_below B42.out hb); have hcz0 : w3.cell? ⟨gg, 0, none⟩ = some (.int .i64 (n : Int)) := (blk_cell BG3.out 0).trans rfl; clear hb hz0 hz1 hz4 BG2 B42; (go_wp2_with fail); refine (impl_within.calls _ _ _ true _ HU.out).mono ?_; rintro e w4 ⟨rfl, hd⟩; have hb := Drawn0.below hd; have HB4 := Aside0.mk (below_step HB3.out hb); have BG4 := Aside0.mk (blk_below BG3.out hb); have B44 := Aside0.mk (blk_below B43.out hb); clear hcz0; have hcz0 : w4.cell? ⟨gg, 0, none⟩ = some (.int .i64 (n : Int)) := (blk_cell BG4.out 0).trans rfl; have hcz1 : w4.cell? ⟨gg, 1, none⟩ = some (.slice A0_1 l0_1.length c0_1) := (blk_cell BG4.out 1).trans rfl; clear hd hb BG3 B43; (go_wp2_with fail); refine (impl_oneAt.calls (n : Int) _ _ l0_1 (q : Int) (-1) f0 _ (Kd.C_below HE.out HB4.out) HC.out HF0.out).mono ?_; rintro e w5 ⟨vf, rfl, hR, hb⟩; obtain ⟨Af, cf, ef⟩ := Kd.R_slice hR; subst ef; have HF5 := Aside0.mk (Kd.R_lower (Kd.R_mono (Kd.R_bound hR) (ok' := fun k_ => w4.heap.size ≤ k_ ∧ k_ < w5.heap.size) fun k_ hk => ⟨hk.2.1, hk.2.2.1⟩) HB4.out.size); have HB5 := Aside0.mk (below_step HB4.out hb); have BG5 := Aside0.mk (blk_below BG4.out hb); have B45 := Aside0.mk (blk_below B44.out hb); have HG4 := Aside0.mk (show gt4 < w4.heap.size from blk_lt B44.out); have HS45 := Aside0.mk hb.size; clear hR hb hcz0 hcz1 BG4 B44; (go_wp2_with (first | ((with_reducible refine gate_dst (N := 8) rfl ?_); refine box_event ?hg (N := 8) ?hd (cs := #[.slice none 0 0]) (t := 25) ?hr ?_; (case hd => rfl); (case hg => rfl); (case hr => exact zz9); intro g8 hg wa hbox hb; have HBa := Aside0.mk hb; have HG8 := Aside0.mk hg; have B8a := Aside0.mk hbox; have hf0 := blk_frozen hbox 0; have hc0 : wa.cell? ⟨g8, 0, none⟩ = some (.slice none 0 0) := (blk_cell hbox 0).trans rfl; clear hg hbox hb) | ((with_reducible refine gate_store (t := 25) (p := 8) rfl ?_); refine store_event (t := 25) (p := 8) (v := ?vo_m8) (w1 := (wa.setCell ⟨g8, 0, none⟩ (.slice Af f0.length cf))) ?hg ?ho ?hn ?hr ?_; (case ho => rfl); (case hg => rfl); (case hn => rfl); (case hr => exact zz9); intro wb hw; have hbb : Below w5.heap.size w5 wb := (by rw [hw]; exact below_set HBa.out (by rw [HG8.out]; exact Nat.le_refl _)); have B8b := Aside0.mk (show wb.heap[g8]? = some (.cells #[.slice Af f0.length cf] 25 (0, 0)) from (by rw [hw]; exact blk_set B8a.out 0 _)); have HF6 := Aside0.mk (Kd.R_below HF5.out hbb); have HB6 := Aside0.mk (below_step HB5.out hbb); have BG6 := Aside0.mk (blk_below BG5.out hbb); have B46 := Aside0.mk (blk_below B45.out hbb); have HZ6 := Aside0.mk hbb.size; have hcz0 : wb.cell? ⟨gg, 0, none⟩ = some (.int .i64 (n : Int)) := (blk_cell BG6.out 0).trans rfl; have hcz1 : wb.cell? ⟨gg, 1, none⟩ = some (.slice A0_1 l0_1.length c0_1) := (blk_cell BG6.out 1).trans rfl; clear hw hbb hf0 hc0))); refine (impl_ParkingOfTree.walk k n l0_1 A0_1 c0_1 l1 f0 _ A1 c1 (.slice Af f0.length cf) q gt4 g8 w _ (fun k_ => w4.heap.size ≤ k_ ∧ k_ < w5.heap.size) HALL.out.1 HALL.out.2.1 HALL.out.2.2.2.2 HALL.out.2.2.1 HALL.out.2.2.2.1 HE.out HC.out HT.out HCT.out HB6.out B46.out B8b.out HF6.out (fun k_ hk => ⟨by have := HZ6.out; omega, by have := HG4.out; omega, by have := HG8.out; omega⟩) HWK.out).mono ?_; rintro e w7 ⟨⟨v, rfl⟩, hR, h8, hb⟩; have HR7 := Aside0.mk hR; have HB7 := Aside0.mk hb; have hz8 : w7.cell? ⟨g8, 0, none⟩ = some (.slice Af f0.length cf) := (blk_cell h8 0).trans rfl; clear hR h8 hb; go_wp2; (go_ret2); exact ⟨_, rfl, Kd.R_mono HR7.out (fun _ _ => trivial), HB7.out⟩
def laws_eqEdge.f (a0_0 : Int) (a0_1 : Int) (a1_0 : Int) (a1_1 : Int) : Option (Bool) := if a0_0 = a1_0 then (if a0_1 = a1_1 then (some true) else (some false)) else (some false)
set_option maxHeartbeats 8000000 in
set_option maxRecDepth 100000 in
theorem laws_eqEdge.calls (a0_0 : Int) (a0_1 : Int) (a1_0 : Int) (a1_1 : Int) (r : Bool) (w : World) (h : laws_eqEdge.f a0_0 a0_1 a1_0 a1_1 = some r) :
  Calls Try.prog 68 #[.agg #[.int .i64 a0_0, .int .i64 a0_1], .agg #[.int .i64 a1_0, .int .i64 a1_1]] w fun e w' => e = .returned (.bool r) ∧ Below w.heap.size w w' := by
 have hu74 := Try.underlying74; have HB := Aside0.mk (Below.refl w.heap.size w); have H : (if a0_0 = a1_0 then (if a0_1 = a1_1 then (some true) else (some false)) else (some false)) = some r := h; clear h; by_cases c3 : a0_0 = a1_0; rotate_left
 ·rw [if_neg c3] at H; have c3b0 : (a0_0 == a1_0) = false := beq_eq_false_iff_ne.mpr c3; have c3b1 : (a0_0 != a1_0) = true := bne_iff_ne.mpr c3; obtain rfl := Option.some.inj H; go_enter Try.func68, Try.ntmps68; (go_wp2_with (first | ((with_reducible refine gate_dst (N := 2) rfl ?_); refine box_event ?hg (N := 2) ?hd (cs := #[.int .i64 a0_0, .int .i64 a0_1]) (t := 74) ?hr ?_; (case hd => rfl); (case hg => rfl); (case hr => exact zz9); intro gb101 hg w15 hbox hb; have n_ := zA4 (below_step zz2 hb) hbox (zz12 : w.heap.size ≤ gb101) (zz12 : w.heap.size ≤ gb101); clear HB; obtain ⟨HB, BK101, GW101, GE101⟩ := n_; clear hb hbox hg) | ((with_reducible refine gate_dst (N := 3) rfl ?_); refine box_event ?hg (N := 3) ?hd (cs := #[.int .i64 a1_0, .int .i64 a1_1]) (t := 74) ?hr ?_; (case hd => rfl); (case hg => rfl); (case hr => exact zz9); intro gb102 hg w16 hbox hb; have n_ := zA7 (blk_below (g := gb101) (o := .cells #[.int .i64 a0_0, .int .i64 a0_1] 74 (0, 0)) zz1 hb) (below_step zz0 hb) hbox (zz15 : w.heap.size ≤ gb102) (zz15 : w.heap.size ≤ gb102) (zz41 : gb101 ≠ gb102) (zz42 : gb102 ≠ gb101); clear BK101 HB; obtain ⟨BK101, HB, BK102, GW102, GE102, NB101_102, NB102_101⟩ := n_; clear hb hbox hg; have hnb17 := NB101_102.out; have hnc17 := NB102_101.out; have hcz18_0 := zC20 BK101; have hcz18_1 := zC21 BK101; have hfz18_0 := blk_frozen BK101.out 0; have hfz18_1 := blk_frozen BK101.out 1; have hcz19_0 := zC20 BK102; have hcz19_1 := zC21 BK102; have hfz19_0 := blk_frozen BK102.out 0; have hfz19_1 := blk_frozen BK102.out 1))); go_ret; exact ⟨zz6, zz14⟩
 rw [if_pos c3] at H; have c3b0 : (a0_0 == a1_0) = true := beq_iff_eq.mpr c3; have c3b1 : (a0_0 != a1_0) = false := bne_eq_false_iff_eq.mpr c3; clear c3; by_cases c4 : a0_1 = a1_1; rotate_left
 ·rw [if_neg c4] at H; have c4b0 : (a0_1 == a1_1) = false := beq_eq_false_iff_ne.mpr c4; have c4b1 : (a0_1 != a1_1) = true := bne_iff_ne.mpr c4; obtain rfl := Option.some.inj H; go_enter Try.func68, Try.ntmps68; (go_wp2_with (first | ((with_reducible refine gate_dst (N := 2) rfl ?_); refine box_event ?hg (N := 2) ?hd (cs := #[.int .i64 a0_0, .int .i64 a0_1]) (t := 74) ?hr ?_; (case hd => rfl); (case hg => rfl); (case hr => exact zz9); intro gb101 hg w10 hbox hb; have n_ := zA4 (below_step zz2 hb) hbox (zz12 : w.heap.size ≤ gb101) (zz12 : w.heap.size ≤ gb101); clear HB; obtain ⟨HB, BK101, GW101, GE101⟩ := n_; clear hb hbox hg) | ((with_reducible refine gate_dst (N := 3) rfl ?_); refine box_event ?hg (N := 3) ?hd (cs := #[.int .i64 a1_0, .int .i64 a1_1]) (t := 74) ?hr ?_; (case hd => rfl); (case hg => rfl); (case hr => exact zz9); intro gb102 hg w11 hbox hb; have n_ := zA7 (blk_below (g := gb101) (o := .cells #[.int .i64 a0_0, .int .i64 a0_1] 74 (0, 0)) zz1 hb) (below_step zz0 hb) hbox (zz15 : w.heap.size ≤ gb102) (zz15 : w.heap.size ≤ gb102) (zz41 : gb101 ≠ gb102) (zz42 : gb102 ≠ gb101); clear BK101 HB; obtain ⟨BK101, HB, BK102, GW102, GE102, NB101_102, NB102_101⟩ := n_; clear hb hbox hg; have hnb12 := NB101_102.out; have hnc12 := NB102_101.out; have hcz13_0 := zC20 BK101; have hcz13_1 := zC21 BK101; have hfz13_0 := blk_frozen BK101.out 0; have hfz13_1 := blk_frozen BK101.out 1; have hcz14_0 := zC20 BK102; have hcz14_1 := zC21 BK102; have hfz14_0 := blk_frozen BK102.out 0; have hfz14_1 := blk_frozen BK102.out 1))); go_ret; exact ⟨zz6, zz14⟩
 rw [if_pos c4] at H; have c4b0 : (a0_1 == a1_1) = true := beq_iff_eq.mpr c4; have c4b1 : (a0_1 != a1_1) = false := bne_eq_false_iff_eq.mpr c4; clear c4; obtain rfl := Option.some.inj H; go_enter Try.func68, Try.ntmps68; (go_wp2_with (first | ((with_reducible refine gate_dst (N := 2) rfl ?_); refine box_event ?hg (N := 2) ?hd (cs := #[.int .i64 a0_0, .int .i64 a0_1]) (t := 74) ?hr ?_; (case hd => rfl); (case hg => rfl); (case hr => exact zz9); intro gb101 hg w5 hbox hb; have n_ := zA4 (below_step zz2 hb) hbox (zz12 : w.heap.size ≤ gb101) (zz12 : w.heap.size ≤ gb101); clear HB; obtain ⟨HB, BK101, GW101, GE101⟩ := n_; clear hb hbox hg) | ((with_reducible refine gate_dst (N := 3) rfl ?_); refine box_event ?hg (N := 3) ?hd (cs := #[.int .i64 a1_0, .int .i64 a1_1]) (t := 74) ?hr ?_; (case hd => rfl); (case hg => rfl); (case hr => exact zz9); intro gb102 hg w6 hbox hb; have n_ := zA7 (blk_below (g := gb101) (o := .cells #[.int .i64 a0_0, .int .i64 a0_1] 74 (0, 0)) zz1 hb) (below_step zz0 hb) hbox (zz15 : w.heap.size ≤ gb102) (zz15 : w.heap.size ≤ gb102) (zz41 : gb101 ≠ gb102) (zz42 : gb102 ≠ gb101); clear BK101 HB; obtain ⟨BK101, HB, BK102, GW102, GE102, NB101_102, NB102_101⟩ := n_; clear hb hbox hg; have hnb7 := NB101_102.out; have hnc7 := NB102_101.out; have hcz8_0 := zC20 BK101; have hcz8_1 := zC21 BK101; have hfz8_0 := blk_frozen BK101.out 0; have hfz8_1 := blk_frozen BK101.out 1; have hcz9_0 := zC20 BK102; have hcz9_1 := zC21 BK102; have hfz9_0 := blk_frozen BK102.out 0; have hfz9_1 := blk_frozen BK102.out 1))); go_ret; exact ⟨zz6, zz14⟩
def laws_eqEdgeS.l0 : Nat → List (S74) → List (S74) → Int → Option (Bool)
 | 0, _, _, _ => none
 | k + 1, x0, x1, x5 => if x5 < (x0.length : Int) then (if 0 ≤ x5 then (if x5 < (x1.length : Int) then ((laws_eqEdge.f ((rd_T74 x0 x5).f0) ((rd_T74 x0 x5).f1) ((rd_T74 x1 x5).f0) ((rd_T74 x1 x5).f1)).bind fun t103 => (if t103 = true then (laws_eqEdgeS.l0 k x0 x1 (wrap64 (x5 + 1))) else (some false))) else (none)) else (none)) else (some true)
def laws_eqEdgeS.f (k : Nat) (l0 : List (S74)) (l1 : List (S74)) : Option (Bool) := if (l0.length : Int) = (l1.length : Int) then (laws_eqEdgeS.l0 k l0 l1 0) else (some false)
theorem laws_eqEdgeS.mono_l : ∀ k, (∀ y0 y1 y2, LeO (laws_eqEdgeS.l0 k y0 y1 y2) (laws_eqEdgeS.l0 (k + 1) y0 y1 y2))
 | 0 => fun _ _ _ r h => by simp [laws_eqEdgeS.l0] at h
 | k + 1 => by
  have ih0 := laws_eqEdgeS.mono_l k
  ·intro y0 y1 y2
   unfold laws_eqEdgeS.l0
   exact zm1
theorem laws_eqEdgeS.mono : ∀ a0 a1 k, LeO (laws_eqEdgeS.f k a0 a1) (laws_eqEdgeS.f (k + 1) a0 a1) := by
 intro a0 a1 k; have ih0 := laws_eqEdgeS.mono_l k; unfold laws_eqEdgeS.f; exact zm1
def laws_eqEdgeS.T6 : Bool × List (List Nat × List Nat) := (true, [([], []), ([], []), ([0, 1], [0, 1]), ([2], [2]), ([], []), ([], []), ([4, 5], [4, 5]), ([6], [6]), ([3, 7], [3, 7]), ([8], [8])])
def laws_eqEdgeS.B6 : List Nat := [0, 0, 3, 7, 0, 0, 48, 112, 255, 511]
theorem laws_eqEdgeS.tab6 : rtab .any (opsOf Try.f39 6) = laws_eqEdgeS.T6 := by kernel_rfl
theorem laws_eqEdgeS.bits6 : waitsOk laws_eqEdgeS.T6.2 laws_eqEdgeS.B6 = true := by kernel_rfl
set_option maxHeartbeats 8000000 in
set_option maxRecDepth 100000 in
theorem laws_eqEdgeS.calls (k : Nat) (A0 : Option Addr) (c0 : Nat) (l0 : List (S74)) (A1 : Option Addr) (c1 : Nat) (l1 : List (S74)) (r : Bool) (w : World) (hr0 : Kd.C k74 w A0 l0.length l0) (hc0 : l0.length ≤ c0) (hr1 : Kd.C k74 w A1 l1.length l1) (hc1 : l1.length ≤ c1) (h : laws_eqEdgeS.f k l0 l1 = some r) :
  Calls Try.prog 39 #[.slice A0 l0.length c0, .slice A1 l1.length c1] w fun e w' => e = .returned (.bool r) ∧ Below w.heap.size w w' := by
 have hu74 := Try.underlying74; have HR0 := Aside0.mk hr0; have HC0 := Aside0.mk hc0; clear hr0 hc0; have HR1 := Aside0.mk hr1; have HC1 := Aside0.mk hc1; clear hr1 hc1; have HB := Aside0.mk (Below.refl w.heap.size w); have H : (if (l0.length : Int) = (l1.length : Int) then (laws_eqEdgeS.l0 k l0 l1 0) else (some false)) = some r := h; clear h; by_cases c3 : (l0.length : Int) = (l1.length : Int); rotate_left
 ·rw [if_neg c3] at H; have c3b0 : ((l0.length : Int) == (l1.length : Int)) = false := beq_eq_false_iff_ne.mpr c3; have c3b1 : ((l0.length : Int) != (l1.length : Int)) = true := bne_iff_ne.mpr c3; (have c3b2 : (l0.length == l1.length) = false := by first | simpa using c3 | (simp at c3 ⊢; omega)); obtain rfl := Option.some.inj H; go_enter Try.func39, Try.ntmps39; go_wp2; go_ret; exact ⟨zz6, zz2⟩
 rw [if_pos c3] at H; have c3b0 : ((l0.length : Int) == (l1.length : Int)) = true := beq_iff_eq.mpr c3; have c3b1 : ((l0.length : Int) != (l1.length : Int)) = false := bne_eq_false_iff_eq.mpr c3; (have c3b2 : (l0.length == l1.length) = true := by first | simpa using c3 | (simp at c3 ⊢; omega)); clear c3; have H' := Aside0.mk H; clear H; go_enter Try.func39, Try.ntmps39; go_wp2; (go_loopg [5] k (fun kq v5 w' => ∃ (x5_1 : Int), v5 = .int .i64 x5_1 ∧ Aside0 (laws_eqEdgeS.l0 kq l0 l1 x5_1 = some r) ∧ Aside0 (kq ≤ k) ∧ Aside0 (Below w.heap.size w w'))); case atStart => exact ⟨(0), zz7, H', ⟨Nat.le_refl _⟩, ⟨zz2⟩⟩
 case round =>
  clear H'; (try clear c1); (try clear p2); (try clear c3); (try clear c3b0); (try clear c3b1); (try clear c3b2); obtain ⟨x5_1, rfl, HA, HK1, HB⟩ := hrel
  cases gk with
  | zero => exact absurd HA.out (by simp [laws_eqEdgeS.l0])
  | succ k1 =>
   have H := HA.out; clear HA; simp only [laws_eqEdgeS.l0] at H; by_cases c4 : x5_1 < (l0.length : Int); rotate_left
   ·rw [if_neg c4] at H; have c4b0 := decide_eq_false c4; clear c4; obtain rfl := Option.some.inj H; go_wp2; go_ret; exact ⟨zz6, zz2⟩
   rw [if_pos c4] at H; have c4b0 := decide_eq_true c4; clear c4; by_cases c5 : 0 ≤ x5_1; rotate_left
   ·rw [if_neg c5] at H; exact absurd H (by simp)
   rw [if_pos c5] at H; have c5b0 := decide_eq_true c5; clear c5; by_cases c6 : x5_1 < (l1.length : Int); rotate_left
   ·rw [if_neg c6] at H; exact absurd H (by simp)
   rw [if_pos c6] at H; have c6b0 := decide_eq_true c6; clear c6; replace H := Option.bind_eq_some_iff.mp H; obtain ⟨t103, A70, H⟩ := H; (try dsimp only at H); have A7 := Aside0.mk A70; clear A70; by_cases c8 : t103 = true; rotate_left
   ·replace c8 := Bool.eq_false_iff.mpr c8; subst c8; rw [if_neg (show ¬ (false = true) by decide)] at H; obtain rfl := Option.some.inj H; (try go_wp2); replace HB := Aside0.mk (below_drew1 HB.out); have p101 : 0 ≤ (x5_1 : Int) := of_decide_eq_true zz4; have q101 : x5_1 < (l0.length : Int) := of_decide_eq_true zz4; obtain ⟨ad101, e101, hx101_0, hx101_1⟩ := at_T74 HR0.out x5_1 p101 q101; have hw101_1 := hx101_1; have hw101_0 := hx101_0; cases e101; replace hx101_0 := (HB.out.cell (World.block_lt_of_cell? w _ hx101_0)).trans hx101_0; replace hx101_1 := (HB.out.cell (World.block_lt_of_cell? w _ hx101_1)).trans hx101_1; replace p101 := eq_true p101; replace q101 := eq_true q101; have p102 : 0 ≤ (x5_1 : Int) := of_decide_eq_true zz4; have q102 : x5_1 < (l1.length : Int) := of_decide_eq_true zz4; obtain ⟨ad102, e102, hx102_0, hx102_1⟩ := at_T74 HR1.out x5_1 p102 q102; have hw102_1 := hx102_1; have hw102_0 := hx102_0; cases e102; replace hx102_0 := (HB.out.cell (World.block_lt_of_cell? w _ hx102_0)).trans hx102_0; replace hx102_1 := (HB.out.cell (World.block_lt_of_cell? w _ hx102_1)).trans hx102_1; replace p102 := eq_true p102; replace q102 := eq_true q102; refine start_ (n := 10) (S := fun w' => w'.cell? (ad101.add ((x5_1).toNat * 2)) = some (.int .i64 ((rd_T74 l0 x5_1).f0)) ∧ w'.cell? ⟨(ad101.add ((x5_1).toNat * 2)).block, (ad101.add ((x5_1).toNat * 2)).off + 1, none⟩ = some (.int .i64 ((rd_T74 l0 x5_1).f1)) ∧ w'.cell? (ad102.add ((x5_1).toNat * 2)) = some (.int .i64 ((rd_T74 l1 x5_1).f0)) ∧ w'.cell? ⟨(ad102.add ((x5_1).toNat * 2)).block, (ad102.add ((x5_1).toNat * 2)).off + 1, none⟩ = some (.int .i64 ((rd_T74 l1 x5_1).f1))) (ds := []) (zM 10 0) (by kernel_rfl) rfl rfl ⟨((HB.out.cell (World.block_lt_of_cell? w _ hw101_0)).trans hw101_0), ((HB.out.cell (World.block_lt_of_cell? w _ hw101_1)).trans hw101_1), ((HB.out.cell (World.block_lt_of_cell? w _ hw102_0)).trans hw102_0), ((HB.out.cell (World.block_lt_of_cell? w _ hw102_1)).trans hw102_1)⟩ (fun hHeld => ?_); refine with_tabW laws_eqEdgeS.tab6 laws_eqEdgeS.bits6 (fun HT_ HW_ => ?_); generalize wr.drew = w11 at HB hx101_0 hx101_1 hx102_0 hx102_1 hHeld ⊢; refine zQ 0 17 (zM 10 1) ?_
    refine zQ 1 18 (zM 10 3) ?_
    refine zQ 2 19 (zM 10 7) ?_
    refine zQ 4 21 (zM 10 23) ?_
    refine zQ 5 22 (zM 10 55) ?_
    refine zQ 6 23 (zM 10 119) ?_
    refine take_ (i := 3) (N := some 20) (v := ?_) (a' := ?_) (zM 10 127) rfl rfl (take_ofW HT_.out HW_.out (by kernel_rfl)) (fun _ _ _ h => h) (Or.inl ⟨by rfl, ?_⟩) hHeld ?_ ?_; rotate_left
    ·rintro w' ⟨s0, s1, s2, s3⟩; exact zzT
    rotate_left
    ·exact zzS
    refine take_ (i := 7) (N := some 24) (v := ?_) (a' := ?_) (zM 10 255) rfl rfl (take_ofW HT_.out HW_.out (by kernel_rfl)) (fun _ _ _ h => h) (Or.inl ⟨by rfl, ?_⟩) hHeld ?_ ?_; rotate_left
    ·rintro w' ⟨s0, s1, s2, s3⟩; exact zzT
    rotate_left
    ·exact zzS
    refine one_ (i := 8) (N := some 25) (zM 10 511) rfl rfl (one_of HT_.out (by kernel_rfl)) (by decide) (fun K hK => ?_); refine goes_ Try.func68 (by kernel_rfl) rfl #[.agg #[.int .i64 ((rd_T74 l0 x5_1).f0), .int .i64 ((rd_T74 l0 x5_1).f1)], .agg #[.int .i64 ((rd_T74 l1 x5_1).f0), .int .i64 ((rd_T74 l1 x5_1).f1)]] (by rfl) rfl rfl zz3 ?_; (with_reducible refine (laws_eqEdge.calls ((rd_T74 l0 x5_1).f0) ((rd_T74 l0 x5_1).f1) ((rd_T74 l1 x5_1).f0) ((rd_T74 l1 x5_1).f1) false _ A7.out).mono ?_); rintro e w12 ⟨rfl, hb⟩; refine ⟨_, rfl, ?_⟩; replace HB := Aside0.mk (below_step zz2 hb); clear hb; refine hK.out _ _ ⟨((HB.out.cell (World.block_lt_of_cell? w _ hw101_0)).trans hw101_0), ((HB.out.cell (World.block_lt_of_cell? w _ hw101_1)).trans hw101_1), ((HB.out.cell (World.block_lt_of_cell? w _ hw102_0)).trans hw102_0), ((HB.out.cell (World.block_lt_of_cell? w _ hw102_1)).trans hw102_1)⟩ (fun hHeld => ?_); clear hK K; refine norm_ (a' := ?_) ?_ ?_; rotate_left
    ·show Act.put _ (some 25) _ = _; exact zzS
    refine zQ 9 26 (zM 10 1023) ?_
    refine done_ (done_of HT_.out (by kernel_rfl)) ?_; (try go_wp2); go_ret; exact ⟨zz6, zz2⟩
   subst c8; rw [if_pos rfl] at H; have H' := Aside0.mk H; clear H; (try go_wp2); replace HB := Aside0.mk (below_drew1 HB.out); have p101 : 0 ≤ (x5_1 : Int) := of_decide_eq_true zz4; have q101 : x5_1 < (l0.length : Int) := of_decide_eq_true zz4; obtain ⟨ad101, e101, hx101_0, hx101_1⟩ := at_T74 HR0.out x5_1 p101 q101; have hw101_1 := hx101_1; have hw101_0 := hx101_0; cases e101; replace hx101_0 := (HB.out.cell (World.block_lt_of_cell? w _ hx101_0)).trans hx101_0; replace hx101_1 := (HB.out.cell (World.block_lt_of_cell? w _ hx101_1)).trans hx101_1; replace p101 := eq_true p101; replace q101 := eq_true q101; have p102 : 0 ≤ (x5_1 : Int) := of_decide_eq_true zz4; have q102 : x5_1 < (l1.length : Int) := of_decide_eq_true zz4; obtain ⟨ad102, e102, hx102_0, hx102_1⟩ := at_T74 HR1.out x5_1 p102 q102; have hw102_1 := hx102_1; have hw102_0 := hx102_0; cases e102; replace hx102_0 := (HB.out.cell (World.block_lt_of_cell? w _ hx102_0)).trans hx102_0; replace hx102_1 := (HB.out.cell (World.block_lt_of_cell? w _ hx102_1)).trans hx102_1; replace p102 := eq_true p102; replace q102 := eq_true q102; refine start_ (n := 10) (S := fun w' => w'.cell? (ad101.add ((x5_1).toNat * 2)) = some (.int .i64 ((rd_T74 l0 x5_1).f0)) ∧ w'.cell? ⟨(ad101.add ((x5_1).toNat * 2)).block, (ad101.add ((x5_1).toNat * 2)).off + 1, none⟩ = some (.int .i64 ((rd_T74 l0 x5_1).f1)) ∧ w'.cell? (ad102.add ((x5_1).toNat * 2)) = some (.int .i64 ((rd_T74 l1 x5_1).f0)) ∧ w'.cell? ⟨(ad102.add ((x5_1).toNat * 2)).block, (ad102.add ((x5_1).toNat * 2)).off + 1, none⟩ = some (.int .i64 ((rd_T74 l1 x5_1).f1))) (ds := []) (zM 10 0) (by kernel_rfl) rfl rfl ⟨((HB.out.cell (World.block_lt_of_cell? w _ hw101_0)).trans hw101_0), ((HB.out.cell (World.block_lt_of_cell? w _ hw101_1)).trans hw101_1), ((HB.out.cell (World.block_lt_of_cell? w _ hw102_0)).trans hw102_0), ((HB.out.cell (World.block_lt_of_cell? w _ hw102_1)).trans hw102_1)⟩ (fun hHeld => ?_); refine with_tabW laws_eqEdgeS.tab6 laws_eqEdgeS.bits6 (fun HT_ HW_ => ?_); generalize wr.drew = w9 at HB hx101_0 hx101_1 hx102_0 hx102_1 hHeld ⊢; refine zQ 0 17 (zM 10 1) ?_
   refine zQ 1 18 (zM 10 3) ?_
   refine zQ 2 19 (zM 10 7) ?_
   refine zQ 4 21 (zM 10 23) ?_
   refine zQ 5 22 (zM 10 55) ?_
   refine zQ 6 23 (zM 10 119) ?_
   refine take_ (i := 3) (N := some 20) (v := ?_) (a' := ?_) (zM 10 127) rfl rfl (take_ofW HT_.out HW_.out (by kernel_rfl)) (fun _ _ _ h => h) (Or.inl ⟨by rfl, ?_⟩) hHeld ?_ ?_; rotate_left
   ·rintro w' ⟨s0, s1, s2, s3⟩; exact zzT
   rotate_left
   ·exact zzS
   refine take_ (i := 7) (N := some 24) (v := ?_) (a' := ?_) (zM 10 255) rfl rfl (take_ofW HT_.out HW_.out (by kernel_rfl)) (fun _ _ _ h => h) (Or.inl ⟨by rfl, ?_⟩) hHeld ?_ ?_; rotate_left
   ·rintro w' ⟨s0, s1, s2, s3⟩; exact zzT
   rotate_left
   ·exact zzS
   refine one_ (i := 8) (N := some 25) (zM 10 511) rfl rfl (one_of HT_.out (by kernel_rfl)) (by decide) (fun K hK => ?_); refine goes_ Try.func68 (by kernel_rfl) rfl #[.agg #[.int .i64 ((rd_T74 l0 x5_1).f0), .int .i64 ((rd_T74 l0 x5_1).f1)], .agg #[.int .i64 ((rd_T74 l1 x5_1).f0), .int .i64 ((rd_T74 l1 x5_1).f1)]] (by rfl) rfl rfl zz3 ?_; (with_reducible refine (laws_eqEdge.calls ((rd_T74 l0 x5_1).f0) ((rd_T74 l0 x5_1).f1) ((rd_T74 l1 x5_1).f0) ((rd_T74 l1 x5_1).f1) true _ A7.out).mono ?_); rintro e w10 ⟨rfl, hb⟩; refine ⟨_, rfl, ?_⟩; replace HB := Aside0.mk (below_step zz2 hb); clear hb; refine hK.out _ _ ⟨((HB.out.cell (World.block_lt_of_cell? w _ hw101_0)).trans hw101_0), ((HB.out.cell (World.block_lt_of_cell? w _ hw101_1)).trans hw101_1), ((HB.out.cell (World.block_lt_of_cell? w _ hw102_0)).trans hw102_0), ((HB.out.cell (World.block_lt_of_cell? w _ hw102_1)).trans hw102_1)⟩ (fun hHeld => ?_); clear hK K; refine norm_ (a' := ?_) ?_ ?_; rotate_left
   ·show Act.put _ (some 25) _ = _; exact zzS
   refine zQ 9 26 (zM 10 1023) ?_
   refine done_ (done_of HT_.out (by kernel_rfl)) ?_; (try go_wp2); go_roundg k1; (case measure => have := HK1.out; omega); case rel => exact ⟨(wrap64 (x5_1 + 1)), zz7, H', ⟨zz39⟩, ⟨zz2⟩⟩
def laws_eqGraph.f (k : Nat) (a0_0 : Int) (l0_1 : List (S74)) (a1_0 : Int) (l1_1 : List (S74)) : Option (Bool) := if a0_0 = a1_0 then ((laws_eqEdgeS.f k l0_1 l1_1).bind fun t103 => (if t103 = true then (some true) else (some false))) else (some false)
theorem laws_eqGraph.mono : ∀ a0 a1 a2 a3 k, LeO (laws_eqGraph.f k a0 a1 a2 a3) (laws_eqGraph.f (k + 1) a0 a1 a2 a3) := by
 intro a0 a1 a2 a3 k; unfold laws_eqGraph.f; repeat' first | (with_reducible apply laws_eqEdgeS.mono) | (with_reducible exact LeO.refl _) | (with_reducible exact LeO.none _) | (with_reducible refine LeO.ite ?_ ?_) | (with_reducible refine LeO.bind ?_ (fun _ => ?_)) | apply laws_eqEdgeS.mono | exact LeO.none _ | refine LeO.ite ?_ ?_ | refine LeO.bind ?_ (fun _ => ?_)
set_option maxHeartbeats 8000000 in
set_option maxRecDepth 100000 in
theorem laws_eqGraph.calls (k : Nat) (a0_0 : Int) (A0_1 : Option Addr) (c0_1 : Nat) (l0_1 : List (S74)) (a1_0 : Int) (A1_1 : Option Addr) (c1_1 : Nat) (l1_1 : List (S74)) (r : Bool) (w : World) (hr0_1 : Kd.C k74 w A0_1 l0_1.length l0_1) (hc0_1 : l0_1.length ≤ c0_1) (hr1_1 : Kd.C k74 w A1_1 l1_1.length l1_1) (hc1_1 : l1_1.length ≤ c1_1) (h : laws_eqGraph.f k a0_0 l0_1 a1_0 l1_1 = some r) :
  Calls Try.prog 13 #[.agg #[.int .i64 a0_0, .slice A0_1 l0_1.length c0_1], .agg #[.int .i64 a1_0, .slice A1_1 l1_1.length c1_1]] w fun e w' => e = .returned (.bool r) ∧ Below w.heap.size w w' := by
 have hu31 := Try.underlying31; have HR0_1 := Aside0.mk hr0_1; have HC0_1 := Aside0.mk hc0_1; clear hr0_1 hc0_1; have HR1_1 := Aside0.mk hr1_1; have HC1_1 := Aside0.mk hc1_1; clear hr1_1 hc1_1; have HB := Aside0.mk (Below.refl w.heap.size w); have H : (if a0_0 = a1_0 then ((laws_eqEdgeS.f k l0_1 l1_1).bind fun t103 => (if t103 = true then (some true) else (some false))) else (some false)) = some r := h; clear h; by_cases c3 : a0_0 = a1_0; rotate_left
 ·rw [if_neg c3] at H; have c3b0 : (a0_0 == a1_0) = false := beq_eq_false_iff_ne.mpr c3; have c3b1 : (a0_0 != a1_0) = true := bne_iff_ne.mpr c3; obtain rfl := Option.some.inj H; go_enter Try.func13, Try.ntmps13; (go_wp2_with (first | ((with_reducible refine gate_dst (N := 2) rfl ?_); refine box_event ?hg (N := 2) ?hd (cs := #[.int .i64 a0_0, .slice A0_1 l0_1.length c0_1]) (t := 31) ?hr ?_; (case hd => rfl); (case hg => rfl); (case hr => exact zz9); intro gb101 hg w18 hbox hb; have n_ := zA4 (below_step zz2 hb) hbox (zz12 : w.heap.size ≤ gb101) (zz12 : w.heap.size ≤ gb101); clear HB; obtain ⟨HB, BK101, GW101, GE101⟩ := n_; clear hb hbox hg) | ((with_reducible refine gate_dst (N := 3) rfl ?_); refine box_event ?hg (N := 3) ?hd (cs := #[.int .i64 a1_0, .slice A1_1 l1_1.length c1_1]) (t := 31) ?hr ?_; (case hd => rfl); (case hg => rfl); (case hr => exact zz9); intro gb102 hg w19 hbox hb; have n_ := zA7 (blk_below (g := gb101) (o := .cells #[.int .i64 a0_0, .slice A0_1 l0_1.length c0_1] 31 (0, 0)) zz1 hb) (below_step zz0 hb) hbox (zz15 : w.heap.size ≤ gb102) (zz15 : w.heap.size ≤ gb102) (zz45 : gb101 ≠ gb102) (zz46 : gb102 ≠ gb101); clear BK101 HB; obtain ⟨BK101, HB, BK102, GW102, GE102, NB101_102, NB102_101⟩ := n_; clear hb hbox hg; have hnb20 := NB101_102.out; have hnc20 := NB102_101.out; have hcz21_0 := zC20 BK101; have hcz21_1 := zC21 BK101; have hfz21_0 := blk_frozen BK101.out 0; have hfz21_1 := blk_frozen BK101.out 1; have hcz22_0 := zC20 BK102; have hcz22_1 := zC21 BK102; have hfz22_0 := blk_frozen BK102.out 0; have hfz22_1 := blk_frozen BK102.out 1))); go_ret; exact ⟨zz6, zz14⟩
 rw [if_pos c3] at H; have c3b0 : (a0_0 == a1_0) = true := beq_iff_eq.mpr c3; have c3b1 : (a0_0 != a1_0) = false := bne_eq_false_iff_eq.mpr c3; clear c3; replace H := Option.bind_eq_some_iff.mp H; obtain ⟨t103, A40, H⟩ := H; (try dsimp only at H); have A4 := Aside0.mk A40; clear A40; by_cases c5 : t103 = true
 ·subst c5; rw [if_pos rfl] at H; obtain rfl := Option.some.inj H; go_enter Try.func13, Try.ntmps13; (go_wp2_with (first | ((with_reducible refine gate_dst (N := 2) rfl ?_); refine box_event ?hg (N := 2) ?hd (cs := #[.int .i64 a0_0, .slice A0_1 l0_1.length c0_1]) (t := 31) ?hr ?_; (case hd => rfl); (case hg => rfl); (case hr => exact zz9); intro gb101 hg w6 hbox hb; have n_ := zA4 (below_step zz2 hb) hbox (zz12 : w.heap.size ≤ gb101) (zz12 : w.heap.size ≤ gb101); clear HB; obtain ⟨HB, BK101, GW101, GE101⟩ := n_; clear hb hbox hg) | ((with_reducible refine gate_dst (N := 3) rfl ?_); refine box_event ?hg (N := 3) ?hd (cs := #[.int .i64 a1_0, .slice A1_1 l1_1.length c1_1]) (t := 31) ?hr ?_; (case hd => rfl); (case hg => rfl); (case hr => exact zz9); intro gb102 hg w7 hbox hb; have n_ := zA7 (blk_below (g := gb101) (o := .cells #[.int .i64 a0_0, .slice A0_1 l0_1.length c0_1] 31 (0, 0)) zz1 hb) (below_step zz0 hb) hbox (zz15 : w.heap.size ≤ gb102) (zz15 : w.heap.size ≤ gb102) (zz45 : gb101 ≠ gb102) (zz46 : gb102 ≠ gb101); clear BK101 HB; obtain ⟨BK101, HB, BK102, GW102, GE102, NB101_102, NB102_101⟩ := n_; clear hb hbox hg; have hnb8 := NB101_102.out; have hnc8 := NB102_101.out; have hcz9_0 := zC20 BK101; have hcz9_1 := zC21 BK101; have hfz9_0 := blk_frozen BK101.out 0; have hfz9_1 := blk_frozen BK101.out 1; have hcz10_0 := zC20 BK102; have hcz10_1 := zC21 BK102; have hfz10_0 := blk_frozen BK102.out 0; have hfz10_1 := blk_frozen BK102.out 1) | ((with_reducible refine gate_callee (f := 39) rfl ?_); refine goesL_ (some 14) rfl rfl Try.func39 (by kernel_rfl) rfl #[.slice A0_1 l0_1.length c0_1, .slice A1_1 l1_1.length c1_1] rfl zz3 ?_; (with_reducible refine (laws_eqEdgeS.calls k _ _ l0_1 _ _ l1_1 true _ ?side1 ?side2 ?side3 ?side4 A4.out).mono ?_); (case side1 => exact zz8); (case side2 => exact HC0_1.out); (case side3 => repeat (first | exact (Kd.C_below HR1_1.out HB.out) | (with_reducible refine Kd.C_alloc ?_ _) | (with_reducible refine Kd.C_drewN ?_ _) | (with_reducible refine Kd.C_drew ?_))); (case side4 => exact HC1_1.out); rintro e w11 ⟨rfl, hb⟩; refine ⟨_, rfl, ?_⟩; have n_ := zA3 (blk_below (g := gb101) (o := .cells #[.int .i64 a0_0, .slice A0_1 l0_1.length c0_1] 31 (0, 0)) zz1 hb) (blk_below (g := gb102) (o := .cells #[.int .i64 a1_0, .slice A1_1 l1_1.length c1_1] 31 (0, 0)) zz22 hb) (below_step zz14 hb); clear BK101 BK102 HB; obtain ⟨BK101, BK102, HB⟩ := n_; clear hb))); go_ret; exact ⟨zz6, zz14⟩
 replace c5 := Bool.eq_false_iff.mpr c5; subst c5; rw [if_neg (show ¬ (false = true) by decide)] at H; obtain rfl := Option.some.inj H; go_enter Try.func13, Try.ntmps13; (go_wp2_with (first | ((with_reducible refine gate_dst (N := 2) rfl ?_); refine box_event ?hg (N := 2) ?hd (cs := #[.int .i64 a0_0, .slice A0_1 l0_1.length c0_1]) (t := 31) ?hr ?_; (case hd => rfl); (case hg => rfl); (case hr => exact zz9); intro gb101 hg w12 hbox hb; have n_ := zA4 (below_step zz2 hb) hbox (zz12 : w.heap.size ≤ gb101) (zz12 : w.heap.size ≤ gb101); clear HB; obtain ⟨HB, BK101, GW101, GE101⟩ := n_; clear hb hbox hg) | ((with_reducible refine gate_dst (N := 3) rfl ?_); refine box_event ?hg (N := 3) ?hd (cs := #[.int .i64 a1_0, .slice A1_1 l1_1.length c1_1]) (t := 31) ?hr ?_; (case hd => rfl); (case hg => rfl); (case hr => exact zz9); intro gb102 hg w13 hbox hb; have n_ := zA7 (blk_below (g := gb101) (o := .cells #[.int .i64 a0_0, .slice A0_1 l0_1.length c0_1] 31 (0, 0)) zz1 hb) (below_step zz0 hb) hbox (zz15 : w.heap.size ≤ gb102) (zz15 : w.heap.size ≤ gb102) (zz45 : gb101 ≠ gb102) (zz46 : gb102 ≠ gb101); clear BK101 HB; obtain ⟨BK101, HB, BK102, GW102, GE102, NB101_102, NB102_101⟩ := n_; clear hb hbox hg; have hnb14 := NB101_102.out; have hnc14 := NB102_101.out; have hcz15_0 := zC20 BK101; have hcz15_1 := zC21 BK101; have hfz15_0 := blk_frozen BK101.out 0; have hfz15_1 := blk_frozen BK101.out 1; have hcz16_0 := zC20 BK102; have hcz16_1 := zC21 BK102; have hfz16_0 := blk_frozen BK102.out 0; have hfz16_1 := blk_frozen BK102.out 1) | ((with_reducible refine gate_callee (f := 39) rfl ?_); refine goesL_ (some 14) rfl rfl Try.func39 (by kernel_rfl) rfl #[.slice A0_1 l0_1.length c0_1, .slice A1_1 l1_1.length c1_1] rfl zz3 ?_; (with_reducible refine (laws_eqEdgeS.calls k _ _ l0_1 _ _ l1_1 false _ ?side1 ?side2 ?side3 ?side4 A4.out).mono ?_); (case side1 => exact zz8); (case side2 => exact HC0_1.out); (case side3 => repeat (first | exact (Kd.C_below HR1_1.out HB.out) | (with_reducible refine Kd.C_alloc ?_ _) | (with_reducible refine Kd.C_drewN ?_ _) | (with_reducible refine Kd.C_drew ?_))); (case side4 => exact HC1_1.out); rintro e w17 ⟨rfl, hb⟩; refine ⟨_, rfl, ?_⟩; have n_ := zA3 (blk_below (g := gb101) (o := .cells #[.int .i64 a0_0, .slice A0_1 l0_1.length c0_1] 31 (0, 0)) zz1 hb) (blk_below (g := gb102) (o := .cells #[.int .i64 a1_0, .slice A1_1 l1_1.length c1_1] 31 (0, 0)) zz22 hb) (below_step zz14 hb); clear BK101 BK102 HB; obtain ⟨BK101, BK102, HB⟩ := n_; clear hb))); go_ret; exact ⟨zz6, zz14⟩
def laws_markEdgeS.l0 : Nat → List (S74) → Int → Int → Option (Int × (List (S74)))
 | 0, _, _, _ => none
 | k + 1, x0, x1, x5 => if x5 < (x0.length : Int) then (if 0 ≤ x5 then ((some (x0.set (x5 : Int).toNat (⟨x1, (rd_T74 x0 x5).f1⟩ : S74) : List (S74))).bind fun y101 => (laws_markEdgeS.l0 k (y101.set (x5 : Int).toNat (⟨(rd_T74 y101 x5).f0, wrap64 (x1 + 1)⟩ : S74)) (wrap64 ((wrap64 (x1 + 1)) + 1)) (wrap64 (x5 + 1)))) else (none)) else (some (x1, x0))
def laws_markEdgeS.f (k : Nat) (l0 : List (S74)) (a1 : Int) : Option (Int × (List (S74))) := laws_markEdgeS.l0 k l0 a1 0
theorem laws_markEdgeS.mono_l : ∀ k, (∀ y0 y1 y2, LeO (laws_markEdgeS.l0 k y0 y1 y2) (laws_markEdgeS.l0 (k + 1) y0 y1 y2))
 | 0 => fun _ _ _ r h => by simp [laws_markEdgeS.l0] at h
 | k + 1 => by
  have ih0 := laws_markEdgeS.mono_l k
  ·intro y0 y1 y2
   unfold laws_markEdgeS.l0
   exact zm1
theorem laws_markEdgeS.mono : ∀ a0 a1 k, LeO (laws_markEdgeS.f k a0 a1) (laws_markEdgeS.f (k + 1) a0 a1) := by
 intro a0 a1 k; have ih0 := laws_markEdgeS.mono_l k; unfold laws_markEdgeS.f; exact zm1
set_option maxHeartbeats 8000000 in
set_option maxRecDepth 100000 in
theorem laws_markEdgeS.calls (k : Nat) (P0_ : Nat → Prop) (u9000_ : Value) (l0 : List (S74)) (a1 : Int) (r1 : Int) (r2 : List (S74)) (w0 w : World) (hB : Below w0.heap.size w0 w) (ho0 : Kd.R k74 74 w w0.heap.size P0_ u9000_ l0) (h : laws_markEdgeS.f k l0 a1 = some (r1, r2)) :
  Calls Try.prog 40 #[u9000_, .int .i64 a1] w fun e w' => e = .returned (.int .i64 r1) ∧ Kd.R k74 74 w' w0.heap.size (fun k_ => (P0_ k_ ∨ w.heap.size ≤ k_)) u9000_ r2 ∧ Below w0.heap.size w0 w' ∧ Kept w w' (fun k_ => P0_ k_) := by
 have HO0 := Aside0.mk (show Kd.R k74 74 w w0.heap.size (fun k_ => (P0_ k_ ∨ w.heap.size ≤ k_)) u9000_ l0 from Kd.R_mono ho0 (fun k_ hk => (.inl hk))); have HK := Aside0.mk (Kept.refl w (fun k_ => P0_ k_)); have HW0 := Aside0.mk hB.size; have HB := Aside0.mk hB; clear hB; have H : (laws_markEdgeS.l0 k l0 a1 0) = some (r1, r2) := h; clear h; have H' := Aside0.mk H; clear H; go_enter Try.func40, Try.ntmps40; go_wp2; (go_loopg [1, 5] k (fun kq v1 v5 w' => ∃ (x0_1 : List (S74)) (x1_1 : Int) (x5_1 : Int), v1 = .int .i64 x1_1 ∧ v5 = .int .i64 x5_1 ∧ Aside0 (laws_markEdgeS.l0 kq x0_1 x1_1 x5_1 = some (r1, r2)) ∧ Aside0 (kq ≤ k) ∧ Aside0 (Kd.R k74 74 w' w0.heap.size (fun k_ => (P0_ k_ ∨ w.heap.size ≤ k_)) u9000_ x0_1) ∧ Aside0 (Kept w w' (fun k_ => P0_ k_)) ∧ Aside0 (Below w0.heap.size w0 w'))); case atStart => exact ⟨(l0), (a1), (0), zz7, zz7, H', ⟨Nat.le_refl _⟩, ⟨by (with_reducible repeat (first | apply Kd.R_alloc | apply Kd.R_drewN | apply Kd.R_drew)); exact HO0.out⟩, ⟨zz32⟩, ⟨zz2⟩⟩
 case round =>
  clear H'; (try clear p2); obtain ⟨x0_1, x1_1, x5_1, rfl, rfl, HA, HK1, HO_0, HK, HB⟩ := hrel
  cases gk with
  | zero => exact absurd HA.out (by simp [laws_markEdgeS.l0])
  | succ k1 =>
   have H := HA.out; clear HA; simp only [laws_markEdgeS.l0] at H; by_cases c3 : x5_1 < (x0_1.length : Int); rotate_left
   ·rw [if_neg c3] at H; have c3b0 := decide_eq_false c3; clear c3; simp only [Option.some.injEq, Prod.mk.injEq] at H; obtain ⟨rfl, rfl⟩ := H; obtain ⟨Ao12, co12, eo12⟩ := Kd.R_slice HO_0.out; subst eo12; go_wp2; go_ret; exact ⟨zz6, by (with_reducible repeat (first | apply Kd.R_alloc | apply Kd.R_drewN | apply Kd.R_drew)); exact HO_0.out, zz2, zz32⟩
   rw [if_pos c3] at H; have c3b0 := decide_eq_true c3; clear c3; by_cases c4 : 0 ≤ x5_1; rotate_left
   ·rw [if_neg c4] at H; exact absurd H (by simp)
   rw [if_pos c4] at H; have c4b0 := decide_eq_true c4; clear c4; obtain ⟨y101, hy_⟩ : ∃ y_ : List (S74), y_ = (x0_1.set (x5_1 : Int).toNat (⟨x1_1, (rd_T74 x0_1 x5_1).f1⟩ : S74)) := ⟨_, rfl⟩; (replace H : (laws_markEdgeS.l0 k1 (y101.set (x5_1 : Int).toNat (⟨(rd_T74 y101 x5_1).f0, wrap64 (x1_1 + 1)⟩ : S74)) (wrap64 ((wrap64 (x1_1 + 1)) + 1)) (wrap64 (x5_1 + 1))) = some (r1, r2) := zzY); have Ny101 := Aside0.mk hy_; clear hy_; obtain ⟨y102, hy_⟩ : ∃ y_ : List (S74), y_ = (y101.set (x5_1 : Int).toNat (⟨(rd_T74 y101 x5_1).f0, wrap64 (x1_1 + 1)⟩ : S74)) := ⟨_, rfl⟩; (replace H : (laws_markEdgeS.l0 k1 y102 (wrap64 ((wrap64 (x1_1 + 1)) + 1)) (wrap64 (x5_1 + 1))) = some (r1, r2) := zzY); have Ny102 := Aside0.mk hy_; clear hy_; have H' := Aside0.mk H; clear H; obtain ⟨Ao7, co7, eo7⟩ := Kd.R_slice HO_0.out; subst eo7; have p5 : 0 ≤ (x5_1 : Int) := of_decide_eq_true zz4; have q5 : (x5_1 : Int) < ((x0_1.length : Int) : Int) := of_decide_eq_true zz4; obtain ⟨go5, co5, eo5, gb5, gl5, cl5, HG5⟩ := Kd.R_form HO_0.out (by omega); (first | cases eo5 | (injection eo5 with ea_ en_ ec_; (first | subst ea_ | (injection ea_ with ea_; subst ea_)); subst ec_; clear en_)); have GB5 := Aside0.mk gb5; have GG5 := Aside0.mk HG5; clear gb5 gl5 HG5; have HMgo5 := Aside0.mk (show (P0_ go5 ∨ w.heap.size ≤ go5) from (HO_0.out.1 _ rfl)); obtain ⟨ce5, hcl5, hM5, hcc5, hfr5⟩ := Kd.R_elem HO_0.out z74 (x5_1 : Int) p5 q5; obtain rfl := k74_openM hM5; have hx5_0 : wr.cell? ⟨go5, (x5_1 : Int).toNat * 2, none⟩ = some (.int .i64 ((rd_T74 x0_1 x5_1).f0)) := hcc5 0 _ rfl; have hx5_1 : wr.cell? ⟨go5, (x5_1 : Int).toNat * 2 + 1, none⟩ = some (.int .i64 ((rd_T74 x0_1 x5_1).f1)) := hcc5 1 _ rfl; have hf5_0 : wr.frozen? ⟨go5, (x5_1 : Int).toNat * 2, none⟩ = false := hfr5 0; have hf5_1 : wr.frozen? ⟨go5, (x5_1 : Int).toNat * 2 + 1, none⟩ = false := hfr5 1; clear hcl5 hcc5 hfr5; (try clear hM5); replace p5 := eq_true p5; replace q5 := eq_true q5; have HX8 := Aside0.mk (show Kd.R k74 74 wr w0.heap.size (fun k_ => (P0_ k_ ∨ w.heap.size ≤ k_)) (.slice (some ⟨go5, 0, none⟩) x0_1.length co7) x0_1 from (by (with_reducible repeat (first | apply Kd.R_alloc | apply Kd.R_drewN | apply Kd.R_drew)); exact HO_0.out)); obtain ⟨ce8, hcl8, hM8, hcc8, hfr8⟩ := Kd.R_elem HX8.out z74 (x5_1 : Int) (of_decide_eq_true zz4) (by have h_ : (x5_1 : Int) < ((x0_1.length : Int) : Int) := of_decide_eq_true zz4; first | exact h_ | (have e_ := (Kd.R_reads' HO_0.out).1; omega) | simpa using h_); obtain rfl := k74_openM hM8; have HP8 := Kd.R_seg HX8.out (x5_1 : Int) (of_decide_eq_true zz4) (by have h_ : (x5_1 : Int) < ((x0_1.length : Int) : Int) := of_decide_eq_true zz4; first | exact h_ | (have e_ := (Kd.R_reads' HO_0.out).1; omega) | simpa using h_) (seg := [.int .i64 x1_1]) (j := 0) hcl8 hcc8 (show 1 ≤ 2 from by decide) (x' := (⟨x1_1, (rd_T74 x0_1 x5_1).f1⟩ : S74)) (k74_mkM _ _ _ (⟨x1_1, (rd_T74 x0_1 x5_1).f1⟩ : S74) ) (fun _ hk => hk); have hx8_0 := hcc8 0 _ rfl; (try simp only [show (k74).sz = 2 from rfl, Nat.mul_one, Nat.add_zero] at hx8_0); have hf8_0 := hfr8 0; (try simp only [show (k74).sz = 2 from rfl, Nat.mul_one, Nat.add_zero] at hf8_0); clear hcl8 hcc8 hfr8; (try clear hM8); (go_wp2_with (first | ((with_reducible refine gate_store (t := 3) (p := 16) rfl ?_); refine store_event (t := 3) (p := 16) (v := ?vo_w9) (w1 := (wr.setCell ⟨go5, (x5_1 : Int).toNat * 2, none⟩ (.int .i64 x1_1))) ?hg ?ho ?hn ?hr ?_; (case ho => rfl); (case hg => rfl); (case hn => rfl); (case hr => exact zz9); intro w9 hw; have hg : wr.grownBy w9 (some go5) := (by rw [hw]; exact HP8.2); have hp_ : Kd.R k74 74 w9 w0.heap.size (fun k_ => (P0_ k_ ∨ w.heap.size ≤ k_)) (.slice (some ⟨go5, 0, none⟩) x0_1.length co7) y101 := (by rw [hw, Ny101.out]; exact HP8.1); clear HP8; have n_ := zA3 hp_ (by rw [hw]; exact below_set (HB.out) GB5.out : Below w0.heap.size w0 w9) (Kept.of_grown (S := (fun k_ => P0_ k_)) hg zz32 (fun k_ e_ => (HO_0.out.1 k_ e_))); clear HO_0 HB HK; obtain ⟨HO_0, HB, HK⟩ := n_; clear hg hw hp_; have p6 : 0 ≤ (x5_1 : Int) := of_decide_eq_true zz4; have q6 : (x5_1 : Int) < ((x0_1.length : Int) : Int) := of_decide_eq_true zz4; obtain ⟨ce6, hcl6, hM6, hcc6, hfr6⟩ := Kd.R_elem HO_0.out z74 (x5_1 : Int) p6 q6; obtain rfl := k74_openM hM6; have hx6_0 : w9.cell? ⟨go5, (x5_1 : Int).toNat * 2, none⟩ = some (.int .i64 ((rd_T74 y101 x5_1).f0)) := hcc6 0 _ rfl; have hx6_1 : w9.cell? ⟨go5, (x5_1 : Int).toNat * 2 + 1, none⟩ = some (.int .i64 ((rd_T74 y101 x5_1).f1)) := hcc6 1 _ rfl; have hf6_0 : w9.frozen? ⟨go5, (x5_1 : Int).toNat * 2, none⟩ = false := hfr6 0; have hf6_1 : w9.frozen? ⟨go5, (x5_1 : Int).toNat * 2 + 1, none⟩ = false := hfr6 1; clear hcl6 hcc6 hfr6; (try clear hM6); replace p6 := eq_true p6; replace q6 := eq_true q6; have HX10 := Aside0.mk (show Kd.R k74 74 w9 w0.heap.size (fun k_ => (P0_ k_ ∨ w.heap.size ≤ k_)) (.slice (some ⟨go5, 0, none⟩) x0_1.length co7) y101 from (by (with_reducible repeat (first | apply Kd.R_alloc | apply Kd.R_drewN | apply Kd.R_drew)); exact HO_0.out)); obtain ⟨ce10, hcl10, hM10, hcc10, hfr10⟩ := Kd.R_elem HX10.out z74 (x5_1 : Int) (of_decide_eq_true zz4) (by have h_ : (x5_1 : Int) < ((x0_1.length : Int) : Int) := of_decide_eq_true zz4; first | exact h_ | (have e_ := (Kd.R_reads' HO_0.out).1; omega) | simpa using h_); obtain rfl := k74_openM hM10; have HP10 := Kd.R_seg HX10.out (x5_1 : Int) (of_decide_eq_true zz4) (by have h_ : (x5_1 : Int) < ((x0_1.length : Int) : Int) := of_decide_eq_true zz4; first | exact h_ | (have e_ := (Kd.R_reads' HO_0.out).1; omega) | simpa using h_) (seg := [.int .i64 (wrap64 (x1_1 + 1))]) (j := 1) hcl10 hcc10 (show 2 ≤ 2 from by decide) (x' := (⟨(rd_T74 y101 x5_1).f0, wrap64 (x1_1 + 1)⟩ : S74)) (k74_mkM _ _ _ (⟨(rd_T74 y101 x5_1).f0, wrap64 (x1_1 + 1)⟩ : S74) ) (fun _ hk => hk); have hx10_1 := hcc10 1 _ rfl; (try simp only [show (k74).sz = 2 from rfl, Nat.mul_one, Nat.add_zero] at hx10_1); have hf10_1 := hfr10 1; (try simp only [show (k74).sz = 2 from rfl, Nat.mul_one, Nat.add_zero] at hf10_1); clear hcl10 hcc10 hfr10; (try clear hM10)) | ((with_reducible refine gate_store (t := 3) (p := 23) rfl ?_); refine store_event (t := 3) (p := 23) (v := ?vo_w11) (w1 := (w9.setCell ⟨go5, (x5_1 : Int).toNat * 2 + 1, none⟩ (.int .i64 (wrap64 (x1_1 + 1))))) ?hg ?ho ?hn ?hr ?_; (case ho => rfl); (case hg => rfl); (case hn => rfl); (case hr => exact zz9); intro w11 hw; have hg : w9.grownBy w11 (some go5) := (by rw [hw]; exact HP10.2); have hp_ : Kd.R k74 74 w11 w0.heap.size (fun k_ => (P0_ k_ ∨ w.heap.size ≤ k_)) (.slice (some ⟨go5, 0, none⟩) x0_1.length co7) y102 := (by rw [hw, Ny102.out]; exact HP10.1); clear HP10; have n_ := zA3 hp_ (by rw [hw]; exact below_set (HB.out) GB5.out : Below w0.heap.size w0 w11) (Kept.of_grown (S := (fun k_ => P0_ k_)) hg zz32 (fun k_ e_ => (HO_0.out.1 k_ e_))); clear HO_0 HB HK; obtain ⟨HO_0, HB, HK⟩ := n_; clear hg hw hp_))); go_roundg k1; (case measure => have := HK1.out; omega); case rel => exact ⟨(y102), (wrap64 ((wrap64 (x1_1 + 1)) + 1)), (wrap64 (x5_1 + 1)), zz7, zz7, H', ⟨zz39⟩, ⟨by (with_reducible repeat (first | apply Kd.R_alloc | apply Kd.R_drewN | apply Kd.R_drew)); exact HO_0.out⟩, ⟨zz32⟩, ⟨zz2⟩⟩
def laws_markGraph.f (k : Nat) (a0_0 : Int) (l0_1 : List (S74)) (a1 : Int) : Option (Int × (List (S74))) := (laws_markEdgeS.f k l0_1 a1).bind fun bt102 => (some (bt102.1, bt102.2))
theorem laws_markGraph.mono : ∀ a0 a1 a2 k, LeO (laws_markGraph.f k a0 a1 a2) (laws_markGraph.f (k + 1) a0 a1 a2) := by
 intro a0 a1 a2 k; unfold laws_markGraph.f; repeat' first | (with_reducible apply laws_markEdgeS.mono) | (with_reducible exact LeO.refl _) | (with_reducible exact LeO.none _) | (with_reducible refine LeO.ite ?_ ?_) | (with_reducible refine LeO.bind ?_ (fun _ => ?_)) | apply laws_markEdgeS.mono | exact LeO.none _ | refine LeO.ite ?_ ?_ | refine LeO.bind ?_ (fun _ => ?_)
set_option maxHeartbeats 8000000 in
set_option maxRecDepth 100000 in
theorem laws_markGraph.calls (k : Nat) (a0_0 : Int) (P0_1_ : Nat → Prop) (u9000_ : Value) (l0_1 : List (S74)) (a1 : Int) (r1 : Int) (r2 : List (S74)) (w0 w : World) (hB : Below w0.heap.size w0 w) (ho0_1 : Kd.R k74 74 w w0.heap.size P0_1_ u9000_ l0_1) (h : laws_markGraph.f k a0_0 l0_1 a1 = some (r1, r2)) :
  Calls Try.prog 14 #[.agg #[.int .i64 a0_0, u9000_], .int .i64 a1] w fun e w' => e = .returned (.int .i64 r1) ∧ Kd.R k74 74 w' w0.heap.size (fun k_ => (P0_1_ k_ ∨ w.heap.size ≤ k_)) u9000_ r2 ∧ Below w0.heap.size w0 w' ∧ Kept w w' (fun k_ => P0_1_ k_) := by
 have hu31 := Try.underlying31; have HO0_1 := Aside0.mk (show Kd.R k74 74 w w0.heap.size (fun k_ => (P0_1_ k_ ∨ w.heap.size ≤ k_)) u9000_ l0_1 from Kd.R_mono ho0_1 (fun k_ hk => (.inl hk))); have HK := Aside0.mk (Kept.refl w (fun k_ => P0_1_ k_)); have HW0 := Aside0.mk hB.size; have HB := Aside0.mk hB; clear hB; have H : ((laws_markEdgeS.f k l0_1 a1).bind fun bt102 => (some (bt102.1, bt102.2))) = some (r1, r2) := h; clear h; replace H := Option.bind_eq_some_iff.mp H; obtain ⟨⟨t102, t103⟩, A30, H⟩ := H; dsimp only at H; have A3 := Aside0.mk A30; clear A30; simp only [Option.some.injEq, Prod.mk.injEq] at H; obtain ⟨rfl, rfl⟩ := H; obtain ⟨Ao4, co4, eo4⟩ := Kd.R_slice HO0_1.out; subst eo4; go_enter Try.func14, Try.ntmps14; (go_wp2_with (first | ((with_reducible refine gate_dst (N := 2) rfl ?_); refine box_event ?hg (N := 2) ?hd (cs := #[.int .i64 a0_0, .slice Ao4 l0_1.length co4]) (t := 31) ?hr ?_; (case hd => rfl); (case hg => rfl); (case hr => exact zz9); intro gb101 hg w5 hbox hb; have n_ := zA6 (Kd.R_below (by (with_reducible repeat (first | apply Kd.R_alloc | apply Kd.R_drewN | apply Kd.R_drew)); exact HO0_1.out) hb) (Kept.below (S := (fun k_ => P0_1_ k_)) zz32 hb) (below_step zz2 hb) hbox (by rw [hg]; exact (by first | exact HK.out.1 | exact (show Kept w _ (fun k_ => P0_1_ k_) from by repeat (first | (with_reducible first | exact HK.out | apply Kept.alloc | apply Kept.drewN | apply Kept.drew) | exact HK.out)).1) : w.heap.size ≤ gb101) (zz12 : w0.heap.size ≤ gb101); clear HO0_1 HK HB; obtain ⟨HO0_1, HK, HB, BK101, GW101, GE101⟩ := n_; clear hb hbox hg; have hcz6_0 := zC20 BK101; have hcz6_1 := zC21 BK101; have hfz6_0 := blk_frozen BK101.out 0; have hfz6_1 := blk_frozen BK101.out 1) | ((with_reducible refine gate_callee (f := 40) rfl ?_); refine goesL_ (some 8) rfl rfl Try.func40 (by kernel_rfl) rfl #[.slice Ao4 l0_1.length co4, .int .i64 a1] rfl zz3 ?_; (with_reducible refine (laws_markEdgeS.calls k (fun k_ => some k_ = (.slice Ao4 l0_1.length co4 : Value).ownBlock) (.slice Ao4 l0_1.length co4) l0_1 a1 t102 t103 w0 _ ?side1 ?side2 A3.out).mono ?_); (case side1 => repeat (first | (with_reducible first | exact HB.out | apply below_alloc | apply pw_below_drewN | apply below_drew1 | refine below_set ?_ GE101.out) | exact HB.out)); (case side2 => exact Kd.R_tight rfl HO0_1.out); rintro e w7 ⟨rfl, hy0, hb, hkp⟩; refine ⟨_, rfl, ?_⟩; have n_ := zA4 (Kd.R_reok rfl hy0 (fun k_ e_ => HO0_1.out.1 k_ e_)) (blk_kept zz1 hkp (fun hs_ => (fun e_ => (Kd.R_ne HO0_1.out BK101.out (by decide)) e_) hs_)) (Kept.then_ (S := (fun k_ => P0_1_ k_)) (by repeat (first | (with_reducible first | exact HK.out | apply Kept.alloc | apply Kept.drewN | apply Kept.drew | refine Kept.setCell ?_ (.inr GW101.out) _) | exact HK.out)) hkp (fun k_ hs_ => (fun e_ => (HO0_1.out.1 k_ e_.symm)) hs_)) hb; clear HO0_1 BK101 HK HB; obtain ⟨HO0_1, BK101, HK, HB⟩ := n_; clear hy0 hb hkp))); go_ret; exact ⟨zz6, by (with_reducible repeat (first | apply Kd.R_alloc | apply Kd.R_drewN | apply Kd.R_drew)); exact HO0_1.out, zz0, by repeat (first | (with_reducible first | exact HK.out | apply Kept.alloc | apply Kept.drewN | apply Kept.drew | refine Kept.setCell ?_ (.inr GW101.out) _) | exact HK.out)⟩
mutual
def laws_FnExactParkingOfTree.j0 : Nat → List Int → Int → List Int → Bool → List Int → List Int → Bool → Bool → Int → List (S85) → Int → List (S74) → Option (Bool)
 | 0, _, _, _, _, _, _, _, _, _, _, _, _ => none
 | k + 1, x1, x2, x8, x9, x11, x12, x13, x55, x102000, x102001, x119000, x119001 => if x55 = true then (none) else ((laws_toGraph.f k x102000 x102001).bind fun bt127 => ((laws_eqGraph.f k x119000 x119001 bt127.1 bt127.2).bind fun t131 => (if t131 = true then ((laws_toIntS.f k x1).bind fun t132 => ((laws_eqIntS.f k x11 t132).bind fun t135 => (if t135 = true then ((laws_markGraph.f k x119000 x119001 1).bind fun bt136 => ((laws_markIntS.f k x11 bt136.1).bind fun bt138 => (if bt138.1 < 0 then (laws_FnExactParkingOfTree.j1 k x1 x2 x8 x9 x12 true x102000 x102001) else ((laws_eqIntS.f k x12 x8).bind fun t140 => (if t140 = true then (laws_FnExactParkingOfTree.j1 k x1 x2 x8 x9 x12 (x13 != x9) x102000 x102001) else (laws_FnExactParkingOfTree.j1 k x1 x2 x8 x9 x12 true x102000 x102001)))))) else (none)))) else (none))))
def laws_FnExactParkingOfTree.j1 : Nat → List Int → Int → List Int → Bool → List Int → Bool → Int → List (S85) → Option (Bool)
 | 0, _, _, _, _, _, _, _, _ => none
 | k + 1, x1, x2, x8, x9, x12, x84, x102000, x102001 => if x84 = true then (none) else ((laws_markIntS.f k x12 1).bind fun bt141 => ((laws_heldIntS.f k bt141.2 1).bind fun t143 => (if t143 < 0 then (none) else (if t143 = bt141.1 then ((laws_toGraph.f k x102000 x102001).bind fun bt144 => ((laws_toIntS.f k x1).bind fun t148 => ((impl_ParkingOfTree.f k bt144.1 bt144.2 t148 x2).bind fun bt151 => ((laws_eqIntS.f k bt151.1 x8).bind fun t155 => (if t155 = true then (laws_FnExactParkingOfTree.j2 k bt141.2 bt141.1 (bt151.2 != x9)) else (laws_FnExactParkingOfTree.j2 k bt141.2 bt141.1 true)))))) else (none)))))
def laws_FnExactParkingOfTree.j2 : Nat → List Int → Int → Bool → Option (Bool)
 | 0, _, _, _ => none
 | k + 1, x12, x15, x113 => if x113 = true then (none) else ((laws_heldIntS.f k x12 1).bind fun t156 => (if t156 < 0 then (none) else (if t156 = x15 then (some true) else (none))))
end
def laws_FnExactParkingOfTree.f (k : Nat) (a0_0 : Int) (l0_1 : List (S85)) (l1 : List Int) (a2 : Int) : Option (Bool) := if (l1.length : Int) > 1048576 then (some true) else ((laws_szGraph.f a0_0 l0_1 1048576).bind fun t102 => (if t102 < 0 then (some true) else ((laws_toGraph.f k a0_0 l0_1).bind fun bt103 => ((laws_toIntS.f k l1).bind fun t107 => ((spec_ParkingOfTree.f k bt103.1 bt103.2 t107 a2).bind fun bt110 => ((laws_toGraph.f k a0_0 l0_1).bind fun bt114 => ((laws_toIntS.f k l1).bind fun t119 => ((impl_ParkingOfTree.f k bt114.1 bt114.2 t119 a2).bind fun bt122 => ((laws_eqIntS.f k bt122.1 bt110.1).bind fun t126 => (if t126 = true then (laws_FnExactParkingOfTree.j0 k l1 a2 bt110.1 bt110.2 t119 bt122.1 bt122.2 (bt122.2 != bt110.2) a0_0 l0_1 bt114.1 bt114.2) else (laws_FnExactParkingOfTree.j0 k l1 a2 bt110.1 bt110.2 t119 bt122.1 bt122.2 true a0_0 l0_1 bt114.1 bt114.2)))))))))))
theorem laws_FnExactParkingOfTree.mono_l : ∀ k, (∀ y0 y1 y2 y3 y4 y5 y6 y7 y8 y9 y10 y11, LeO (laws_FnExactParkingOfTree.j0 k y0 y1 y2 y3 y4 y5 y6 y7 y8 y9 y10 y11) (laws_FnExactParkingOfTree.j0 (k + 1) y0 y1 y2 y3 y4 y5 y6 y7 y8 y9 y10 y11)) ∧ (∀ y0 y1 y2 y3 y4 y5 y6 y7, LeO (laws_FnExactParkingOfTree.j1 k y0 y1 y2 y3 y4 y5 y6 y7) (laws_FnExactParkingOfTree.j1 (k + 1) y0 y1 y2 y3 y4 y5 y6 y7)) ∧ (∀ y0 y1 y2, LeO (laws_FnExactParkingOfTree.j2 k y0 y1 y2) (laws_FnExactParkingOfTree.j2 (k + 1) y0 y1 y2))
 | 0 => ⟨fun _ _ _ _ _ _ _ _ _ _ _ _ r h => by simp [laws_FnExactParkingOfTree.j0] at h, fun _ _ _ _ _ _ _ _ r h => by simp [laws_FnExactParkingOfTree.j1] at h, fun _ _ _ r h => by simp [laws_FnExactParkingOfTree.j2] at h⟩
 | k + 1 => by
  obtain ⟨ih0, ih1, ih2⟩ := laws_FnExactParkingOfTree.mono_l k
  refine ⟨?_, ?_, ?_⟩
  ·intro y0 y1 y2 y3 y4 y5 y6 y7 y8 y9 y10 y11
   unfold laws_FnExactParkingOfTree.j0
   exact zm2
  ·intro y0 y1 y2 y3 y4 y5 y6 y7
   unfold laws_FnExactParkingOfTree.j1
   exact zm2
  ·intro y0 y1 y2
   unfold laws_FnExactParkingOfTree.j2
   exact zm2
theorem laws_FnExactParkingOfTree.mono : ∀ a0 a1 a2 a3 k, LeO (laws_FnExactParkingOfTree.f k a0 a1 a2 a3) (laws_FnExactParkingOfTree.f (k + 1) a0 a1 a2 a3) := by
 intro a0 a1 a2 a3 k; obtain ⟨ih0, ih1, ih2⟩ := laws_FnExactParkingOfTree.mono_l k; unfold laws_FnExactParkingOfTree.f; exact zm2
set_option maxHeartbeats 8000000 in
set_option maxRecDepth 100000 in
theorem laws_FnExactParkingOfTree.calls (k : Nat) (a0_0 : Int) (A0_1 : Option Addr) (c0_1 : Nat) (l0_1 : List (S85)) (A1 : Option Addr) (c1 : Nat) (l1 : List Int) (a2 : Int) (r : Bool) (w : World) (hr0_1 : Kd.C k85 w A0_1 l0_1.length l0_1) (hc0_1 : l0_1.length ≤ c0_1) (hr1 : Kd.C (Kd.int .i64) w A1 l1.length l1) (hc1 : l1.length ≤ c1) (h : laws_FnExactParkingOfTree.f k a0_0 l0_1 l1 a2 = some r) :
  Calls Try.prog 3 #[.agg #[.int .i64 a0_0, .slice A0_1 l0_1.length c0_1], .slice A1 l1.length c1, .int .i64 a2] w fun e w' => e = .returned (.bool r) ∧ Below w.heap.size w w' := by
 have hu24 := Try.underlying24; have hu31 := Try.underlying31; have HR0_1 := Aside0.mk hr0_1; have HC0_1 := Aside0.mk hc0_1; clear hr0_1 hc0_1; have HR1 := Aside0.mk hr1; have HC1 := Aside0.mk hc1; clear hr1 hc1; have HB := Aside0.mk (Below.refl w.heap.size w); have H : (if (l1.length : Int) > 1048576 then (some true) else ((laws_szGraph.f a0_0 l0_1 1048576).bind fun t102 => (if t102 < 0 then (some true) else ((laws_toGraph.f k a0_0 l0_1).bind fun bt103 => ((laws_toIntS.f k l1).bind fun t107 => ((spec_ParkingOfTree.f k bt103.1 bt103.2 t107 a2).bind fun bt110 => ((laws_toGraph.f k a0_0 l0_1).bind fun bt114 => ((laws_toIntS.f k l1).bind fun t119 => ((impl_ParkingOfTree.f k bt114.1 bt114.2 t119 a2).bind fun bt122 => ((laws_eqIntS.f k bt122.1 bt110.1).bind fun t126 => (if t126 = true then (laws_FnExactParkingOfTree.j0 k l1 a2 bt110.1 bt110.2 t119 bt122.1 bt122.2 (bt122.2 != bt110.2) a0_0 l0_1 bt114.1 bt114.2) else (laws_FnExactParkingOfTree.j0 k l1 a2 bt110.1 bt110.2 t119 bt122.1 bt122.2 true a0_0 l0_1 bt114.1 bt114.2)))))))))))) = some r := h; clear h; by_cases c4 : (l1.length : Int) > 1048576
 ·rw [if_pos c4] at H; have c4b0 : decide (1048576 < (l1.length : Int)) = true := decide_eq_true c4; have c4b1 : decide (1048576 < l1.length) = true := decide_eq_true (by omega); clear c4; obtain rfl := Option.some.inj H; go_enter Try.func3, Try.ntmps3; (go_wp2_with (first | ((with_reducible refine gate_dst (N := 3) rfl ?_); refine box_event ?hg (N := 3) ?hd (cs := #[.int .i64 a0_0, .slice A0_1 l0_1.length c0_1]) (t := 24) ?hr ?_; (case hd => rfl); (case hg => rfl); (case hr => exact zz9); intro gb101 hg w5 hbox hb; have n_ := zA4 (below_step zz2 hb) hbox (zz12 : w.heap.size ≤ gb101) (zz12 : w.heap.size ≤ gb101); clear HB; obtain ⟨HB, BK101, GW101, GE101⟩ := n_; clear hb hbox hg))); go_ret; exact ⟨zz6, zz0⟩
 rw [if_neg c4] at H; have c4b0 : decide (1048576 < (l1.length : Int)) = false := decide_eq_false c4; have c4b1 : decide (1048576 < l1.length) = false := decide_eq_false (by omega); clear c4; replace H := Option.bind_eq_some_iff.mp H; obtain ⟨t102, A60, H⟩ := H; (try dsimp only at H); have A6 := Aside0.mk A60; clear A60; by_cases c7 : t102 < 0
 ·rw [if_pos c7] at H; have c7b0 := decide_eq_true c7; clear c7; obtain rfl := Option.some.inj H; go_enter Try.func3, Try.ntmps3; (go_wp2_with (first | ((with_reducible refine gate_dst (N := 3) rfl ?_); refine box_event ?hg (N := 3) ?hd (cs := #[.int .i64 a0_0, .slice A0_1 l0_1.length c0_1]) (t := 24) ?hr ?_; (case hd => rfl); (case hg => rfl); (case hr => exact zz9); intro gb101 hg w8 hbox hb; have n_ := zA4 (below_step zz2 hb) hbox (zz12 : w.heap.size ≤ gb101) (zz12 : w.heap.size ≤ gb101); clear HB; obtain ⟨HB, BK101, GW101, GE101⟩ := n_; clear hb hbox hg; have hcz9_0 := zC20 BK101; have hcz9_1 := zC21 BK101; have hfz9_0 := blk_frozen BK101.out 0; have hfz9_1 := blk_frozen BK101.out 1) | ((with_reducible refine gate_callee (f := 7) rfl ?_); refine goesL_ (some 24) rfl rfl Try.func7 (by kernel_rfl) rfl #[.agg #[.int .i64 a0_0, .slice A0_1 l0_1.length c0_1], .int .i64 1048576] rfl zz3 ?_; (with_reducible refine (laws_szGraph.calls a0_0 _ _ l0_1 1048576 t102 _ ?side1 ?side2 A6.out).mono ?_); (case side1 => exact zz8); (case side2 => exact HC0_1.out); rintro e w10 ⟨rfl, hb⟩; refine ⟨_, rfl, ?_⟩; have n_ := zA2 (blk_below (g := gb101) (o := .cells #[.int .i64 a0_0, .slice A0_1 l0_1.length c0_1] 24 (0, 0)) zz1 hb) (below_step zz0 hb); clear BK101 HB; obtain ⟨BK101, HB⟩ := n_; clear hb))); go_ret; exact ⟨zz6, zz0⟩
 rw [if_neg c7] at H; have c7b0 := decide_eq_false c7; clear c7; replace H := Option.bind_eq_some_iff.mp H; obtain ⟨⟨t103, t104⟩, A110, H⟩ := H; dsimp only at H; have A11 := Aside0.mk A110; clear A110; replace H := Option.bind_eq_some_iff.mp H; obtain ⟨t107, A120, H⟩ := H; (try dsimp only at H); have A12 := Aside0.mk A120; clear A120; replace H := Option.bind_eq_some_iff.mp H; obtain ⟨⟨t110, t113⟩, A130, H⟩ := H; dsimp only at H; have A13 := Aside0.mk A130; clear A130; replace H := Option.bind_eq_some_iff.mp H; obtain ⟨⟨t114, t115⟩, A140, H⟩ := H; dsimp only at H; have A14 := Aside0.mk A140; clear A140; replace H := Option.bind_eq_some_iff.mp H; obtain ⟨t119, A150, H⟩ := H; (try dsimp only at H); have A15 := Aside0.mk A150; clear A150; replace H := Option.bind_eq_some_iff.mp H; obtain ⟨⟨t122, t125⟩, A160, H⟩ := H; dsimp only at H; have A16 := Aside0.mk A160; clear A160; have HC17 := Aside0.mk H; clear H; go_enter Try.func3, Try.ntmps3; (go_upto_region 11 with (first | ((with_reducible refine gate_dst (N := 3) rfl ?_); refine box_event ?hg (N := 3) ?hd (cs := #[.int .i64 a0_0, .slice A0_1 l0_1.length c0_1]) (t := 24) ?hr ?_; (case hd => rfl); (case hg => rfl); (case hr => exact zz9); intro gb101 hg w18 hbox hb; have n_ := zA4 (below_step zz2 hb) hbox (zz12 : w.heap.size ≤ gb101) (zz12 : w.heap.size ≤ gb101); clear HB; obtain ⟨HB, BK101, GW101, GE101⟩ := n_; clear hb hbox hg; have hcz19_0 := zC20 BK101; have hcz19_1 := zC21 BK101; have hfz19_0 := blk_frozen BK101.out 0; have hfz19_1 := blk_frozen BK101.out 1) | ((with_reducible refine gate_callee (f := 7) rfl ?_); refine goesL_ (some 24) rfl rfl Try.func7 (by kernel_rfl) rfl #[.agg #[.int .i64 a0_0, .slice A0_1 l0_1.length c0_1], .int .i64 1048576] rfl zz3 ?_; (with_reducible refine (laws_szGraph.calls a0_0 _ _ l0_1 1048576 t102 _ ?side1 ?side2 A6.out).mono ?_); (case side1 => exact zz8); (case side2 => exact HC0_1.out); rintro e w20 ⟨rfl, hb⟩; refine ⟨_, rfl, ?_⟩; have n_ := zA2 (blk_below (g := gb101) (o := .cells #[.int .i64 a0_0, .slice A0_1 l0_1.length c0_1] 24 (0, 0)) zz1 hb) (below_step zz0 hb); clear BK101 HB; obtain ⟨BK101, HB⟩ := n_; clear hb; have hcz21_0 := zC20 BK101; have hcz21_1 := zC21 BK101; have hfz21_0 := blk_frozen BK101.out 0; have hfz21_1 := blk_frozen BK101.out 1) | ((with_reducible refine gate_callee (f := 9) rfl ?_); refine goesL_ (some 29) rfl rfl Try.func9 (by kernel_rfl) rfl #[.agg #[.int .i64 a0_0, .slice A0_1 l0_1.length c0_1]] rfl zz3 ?_; (with_reducible refine (laws_toGraph.calls k a0_0 _ _ l0_1 t103 t104 _ ?side1 ?side2 A11.out).mono ?_); (case side1 => exact zz8); (case side2 => exact HC0_1.out); rintro e w22 ⟨v105, rfl, ho0, hb⟩; refine ⟨_, rfl, ?_⟩; have n_ := zA3 (Kd.R_lower ho0 (below_size zz0)) (blk_below (g := gb101) (o := .cells #[.int .i64 a0_0, .slice A0_1 l0_1.length c0_1] 24 (0, 0)) zz1 hb) (below_step zz0 hb); clear BK101 HB; obtain ⟨HO106, BK101, HB⟩ := n_; clear ho0 hb) | ((with_reducible refine gate_callee (f := 10) rfl ?_); refine goesL_ (some 31) rfl rfl Try.func10 (by kernel_rfl) rfl #[.slice A1 l1.length c1] rfl zz3 ?_; (with_reducible refine (laws_toIntS.calls k _ _ l1 t107 _ ?side1 ?side2 A12.out).mono ?_); (case side1 => exact zz21); (case side2 => exact HC1.out); rintro e w23 ⟨v108, rfl, ho0, hb⟩; refine ⟨_, rfl, ?_⟩; have n_ := zA4 (Kd.R_below zz33 hb) (Kd.R_lower ho0 (below_size zz0)) (blk_below (g := gb101) (o := .cells #[.int .i64 a0_0, .slice A0_1 l0_1.length c0_1] 24 (0, 0)) zz1 hb) (below_step zz0 hb); clear HO106 BK101 HB; obtain ⟨HO106, HO109, BK101, HB⟩ := n_; clear ho0 hb; obtain ⟨Ao24, co24, eo24⟩ := Kd.R_slice HO106.out; subst eo24; obtain ⟨Ao25, co25, eo25⟩ := Kd.R_slice HO109.out; subst eo25) | ((with_reducible refine gate_callee (f := 8) rfl ?_); refine goesL_ (some 33) rfl rfl Try.func8 (by kernel_rfl) rfl #[.agg #[.int .i64 t103, .slice Ao24 t104.length co24], .slice Ao25 t107.length co25, .int .i64 a2] rfl zz3 ?_; (with_reducible refine (spec_ParkingOfTree.calls k t103 _ _ t104 _ _ t107 a2 t110 t113 _ ?side1 ?side2 ?side3 ?side4 A13.out).mono ?_); (case side1 => repeat (first | exact (Kd.R_reads' HO106.out).2.2 | (with_reducible refine Kd.C_alloc ?_ _) | (with_reducible refine Kd.C_drewN ?_ _) | (with_reducible refine Kd.C_drew ?_))); (case side2 => exact (Kd.R_reads' HO106.out).2.1); (case side3 => repeat (first | exact (Kd.R_reads' HO109.out).2.2 | (with_reducible refine Kd.C_alloc ?_ _) | (with_reducible refine Kd.C_drewN ?_ _) | (with_reducible refine Kd.C_drew ?_))); (case side4 => exact (Kd.R_reads' HO109.out).2.1); rintro e w26 ⟨v111, rfl, ho0, hb⟩; refine ⟨_, rfl, ?_⟩; have n_ := zA5 (Kd.R_below zz33 hb) (Kd.R_elder' zz24 (Kd.R_base ho0) hb) (Kd.R_lower (Kd.R_new' ho0 (Kd.R_lt zz24)) (below_size zz0)) (blk_below (g := gb101) (o := .cells #[.int .i64 a0_0, .slice A0_1 l0_1.length c0_1] 24 (0, 0)) zz1 hb) (below_step zz0 hb); clear HO106 HO109 BK101 HB; obtain ⟨HO106, HO109, HO112, BK101, HB⟩ := n_; clear ho0 hb; have hcz27_0 := zC20 BK101; have hcz27_1 := zC21 BK101; have hfz27_0 := blk_frozen BK101.out 0; have hfz27_1 := blk_frozen BK101.out 1) | ((with_reducible refine gate_callee (f := 9) rfl ?_); refine goesL_ (some 37) rfl rfl Try.func9 (by kernel_rfl) rfl #[.agg #[.int .i64 a0_0, .slice A0_1 l0_1.length c0_1]] rfl zz3 ?_; (with_reducible refine (laws_toGraph.calls k a0_0 _ _ l0_1 t114 t115 _ ?side1 ?side2 A14.out).mono ?_); (case side1 => exact zz8); (case side2 => exact HC0_1.out); rintro e w28 ⟨v116, rfl, ho0, hb⟩; refine ⟨_, rfl, ?_⟩; have n_ := zA6 (Kd.R_elder' zz33 (Kd.R_base ho0) hb) (Kd.R_below zz24 hb) (Kd.R_below (by (with_reducible repeat (first | apply Kd.R_alloc | apply Kd.R_drewN | apply Kd.R_drew)); exact HO112.out) hb) (Kd.R_lower (Kd.R_new' ho0 (Kd.R_lt zz33)) (below_size zz0)) (blk_below (g := gb101) (o := .cells #[.int .i64 a0_0, .slice A0_1 l0_1.length c0_1] 24 (0, 0)) zz1 hb) (below_step zz0 hb); clear HO106 HO109 HO112 BK101 HB; obtain ⟨HO106, HO109, HO112, HO117, BK101, HB⟩ := n_; clear ho0 hb) | ((with_reducible refine gate_dst (N := 10) rfl ?_); refine box_event ?hg (N := 10) ?hd (cs := #[.int .i64 0, .slice none 0 0]) (t := 31) ?hr ?_; (case hd => rfl); (case hg => rfl); (case hr => exact zz9); intro gb118 hg w29 hbox hb; have n_ := zA11 (Kd.R_below zz33 hb) (Kd.R_below zz24 hb) (Kd.R_below (by (with_reducible repeat (first | apply Kd.R_alloc | apply Kd.R_drewN | apply Kd.R_drew)); exact HO112.out) hb) (Kd.R_below (by (with_reducible repeat (first | apply Kd.R_alloc | apply Kd.R_drewN | apply Kd.R_drew)); exact HO117.out) hb) (blk_below (g := gb101) (o := .cells #[.int .i64 a0_0, .slice A0_1 l0_1.length c0_1] 24 (0, 0)) zz1 hb) (below_step zz0 hb) hbox (zz15 : w.heap.size ≤ gb118) (zz15 : w.heap.size ≤ gb118) (by rw [hg]; exact Nat.ne_of_lt (blk_lt (g := gb101) (o := .cells #[.int .i64 a0_0, .slice A0_1 l0_1.length c0_1] 24 (0, 0)) zz1) : gb101 ≠ gb118) (by rw [hg]; exact Nat.ne_of_gt (blk_lt (g := gb101) (o := .cells #[.int .i64 a0_0, .slice A0_1 l0_1.length c0_1] 24 (0, 0)) zz1) : gb118 ≠ gb101); clear HO106 HO109 HO112 HO117 BK101 HB; obtain ⟨HO106, HO109, HO112, HO117, BK101, HB, BK118, GW118, GE118, NB101_118, NB118_101⟩ := n_; clear hb hbox hg; have hnb30 := NB118_101.out; have hnc30 := NB101_118.out; have hcz31_0 := zC20 BK118; have hcz31_1 := zC21 BK118; have hfz31_0 := blk_frozen BK118.out 0; have hfz31_1 := blk_frozen BK118.out 1; obtain ⟨Ao32, co32, eo32⟩ := Kd.R_slice HO117.out; subst eo32) | ((with_reducible refine gate_callee (f := 10) rfl ?_); refine goesL_ (some 39) rfl rfl Try.func10 (by kernel_rfl) rfl #[.slice A1 l1.length c1] rfl zz3 ?_; (with_reducible refine (laws_toIntS.calls k _ _ l1 t119 _ ?side1 ?side2 A15.out).mono ?_); (case side1 => exact Kd.C_below HR1.out zz10); (case side2 => exact HC1.out); rintro e w33 ⟨v120, rfl, ho0, hb⟩; refine ⟨_, rfl, ?_⟩; have n_ := zA8 (Kd.R_below (by (with_reducible repeat (first | apply Kd.R_alloc | apply Kd.R_drewN | apply Kd.R_drew)); exact (Kd.R_mono (Kd.R_far (p := ⟨gb118, 1, none⟩) (Kd.R_far (p := ⟨gb118, 0, none⟩) (Kd.R_types HO106.out BK118.out (by decide)) (fun _ hk => hk.2) (.int .i64 t114)) (fun _ hk => hk.2) (.slice Ao32 t115.length co32)) (fun _ h_ => h_.1))) hb) (Kd.R_elder' zz48 (Kd.R_base ho0) hb) (Kd.R_elder' zz49 (Kd.R_base ho0) hb) (Kd.R_below (by (with_reducible repeat (first | apply Kd.R_alloc | apply Kd.R_drewN | apply Kd.R_drew)); exact (Kd.R_mono (Kd.R_far (p := ⟨gb118, 1, none⟩) (Kd.R_far (p := ⟨gb118, 0, none⟩) (Kd.R_types HO117.out BK118.out (by decide)) (fun _ hk => hk.2) (.int .i64 t114)) (fun _ hk => hk.2) (.slice Ao32 t115.length co32)) (fun _ h_ => h_.1))) hb) (Kd.R_lower (Kd.R_new' (Kd.R_new' ho0 (Kd.R_lt zz48)) (Kd.R_lt zz49)) (below_size zz10)) (blk_below (g := gb101) (o := .cells #[.int .i64 a0_0, .slice A0_1 l0_1.length c0_1] 24 (0, 0)) (by (with_reducible repeat (first | refine blk_drewN ?_ _ | refine blk_drew ?_ | refine blk_alloc ?_ _)); refine blk_far ?_ NB101_118.out _; (with_reducible repeat (first | refine blk_drewN ?_ _ | refine blk_drew ?_ | refine blk_alloc ?_ _)); refine blk_far ?_ NB101_118.out _; (with_reducible repeat (first | refine blk_drewN ?_ _ | refine blk_drew ?_ | refine blk_alloc ?_ _)); exact BK101.out) hb) (blk_below (g := gb118) (o := .cells #[.int .i64 t114, .slice Ao32 t115.length co32] 31 (0, 0)) (by (with_reducible repeat (first | refine blk_drewN ?_ _ | refine blk_drew ?_ | refine blk_alloc ?_ _)); refine blk_put (cs := #[.int .i64 t114, .slice none 0 0]) ?_ 1 _ rfl; (with_reducible repeat (first | refine blk_drewN ?_ _ | refine blk_drew ?_ | refine blk_alloc ?_ _)); refine blk_put (cs := #[.int .i64 0, .slice none 0 0]) ?_ 0 _ rfl; (with_reducible repeat (first | refine blk_drewN ?_ _ | refine blk_drew ?_ | refine blk_alloc ?_ _)); exact BK118.out) hb) (below_step zz10 hb); clear HO106 HO109 HO112 HO117 BK101 BK118 HB; obtain ⟨HO106, HO109, HO112, HO117, HO121, BK101, BK118, HB⟩ := n_; clear ho0 hb; have hcz34_0 := zC20 BK118; have hcz34_1 := zC21 BK118; have hfz34_0 := blk_frozen BK118.out 0; have hfz34_1 := blk_frozen BK118.out 1; obtain ⟨Ao35, co35, eo35⟩ := Kd.R_slice HO121.out; subst eo35) | ((with_reducible refine gate_callee (f := 11) rfl ?_); refine goesL_ (some 44) rfl rfl Try.func11 (by kernel_rfl) rfl #[.agg #[.int .i64 t114, .slice Ao32 t115.length co32], .slice Ao35 t119.length co35, .int .i64 a2] rfl zz3 ?_; (with_reducible refine (impl_ParkingOfTree.calls k t114 _ _ t115 _ _ t119 a2 t122 t125 _ ?side1 ?side2 ?side3 ?side4 A16.out).mono ?_); (case side1 => repeat (first | exact (Kd.R_reads' HO117.out).2.2 | (with_reducible refine Kd.C_alloc ?_ _) | (with_reducible refine Kd.C_drewN ?_ _) | (with_reducible refine Kd.C_drew ?_))); (case side2 => exact (Kd.R_reads' HO117.out).2.1); (case side3 => repeat (first | exact (Kd.R_reads' HO121.out).2.2 | (with_reducible refine Kd.C_alloc ?_ _) | (with_reducible refine Kd.C_drewN ?_ _) | (with_reducible refine Kd.C_drew ?_))); (case side4 => exact (Kd.R_reads' HO121.out).2.1); rintro e w36 ⟨v123, rfl, ho0, hb⟩; refine ⟨_, rfl, ?_⟩; have n_ := zA9 (Kd.R_below zz33 hb) (Kd.R_elder' zz24 (Kd.R_base ho0) hb) (Kd.R_elder' (by (with_reducible repeat (first | apply Kd.R_alloc | apply Kd.R_drewN | apply Kd.R_drew)); exact HO112.out) (Kd.R_base ho0) hb) (Kd.R_below (by (with_reducible repeat (first | apply Kd.R_alloc | apply Kd.R_drewN | apply Kd.R_drew)); exact HO117.out) hb) (Kd.R_elder' (by (with_reducible repeat (first | apply Kd.R_alloc | apply Kd.R_drewN | apply Kd.R_drew)); exact HO121.out) (Kd.R_base ho0) hb) (Kd.R_lower (Kd.R_new' (Kd.R_new' (Kd.R_new' ho0 (Kd.R_lt zz24)) (Kd.R_lt (by (with_reducible repeat (first | apply Kd.R_alloc | apply Kd.R_drewN | apply Kd.R_drew)); exact HO112.out))) (Kd.R_lt (by (with_reducible repeat (first | apply Kd.R_alloc | apply Kd.R_drewN | apply Kd.R_drew)); exact HO121.out))) (below_size zz10)) (blk_below (g := gb101) (o := .cells #[.int .i64 a0_0, .slice A0_1 l0_1.length c0_1] 24 (0, 0)) zz1 hb) (blk_below (g := gb118) (o := .cells #[.int .i64 t114, .slice Ao32 t115.length co32] 31 (0, 0)) zz23 hb) (below_step zz10 hb); clear HO106 HO109 HO112 HO117 HO121 BK101 BK118 HB; obtain ⟨HO106, HO109, HO112, HO117, HO121, HO124, BK101, BK118, HB⟩ := n_; clear ho0 hb))); (try simp only [Act.put, List.setIfInBounds_toArray, List.set_cons_zero, List.set_cons_succ]); go_cut [55] (fun v55 wc => ∃ (kq : Nat) (x55_16 : Bool), v55 = .bool x55_16 ∧ Aside0 (laws_FnExactParkingOfTree.j0 kq l1 a2 t110 t113 t119 t122 t125 x55_16 a0_0 l0_1 t114 t115 = some r) ∧ Aside0 (kq ≤ k) ∧ Aside0 (Kd.R (Kd.int .i64) 3 wc w.heap.size (fun k_ => some k_ ≠ ((.slice Ao35 t119.length co35) : Value).ownBlock ∧ some k_ ≠ (v123 : Value).ownBlock) v111 t110) ∧ Aside0 (Kd.R (Kd.int .i64) 3 wc w.heap.size (fun k_ => some k_ ≠ (v111 : Value).ownBlock ∧ some k_ ≠ (v123 : Value).ownBlock) (.slice Ao35 t119.length co35) t119) ∧ Aside0 (Kd.R (Kd.int .i64) 3 wc w.heap.size (fun k_ => some k_ ≠ (v111 : Value).ownBlock ∧ some k_ ≠ ((.slice Ao35 t119.length co35) : Value).ownBlock) v123 t122) ∧ Aside0 (Kd.R k74 74 wc w.heap.size (fun _ => True) (.slice Ao32 t115.length co32) t115) ∧ Aside0 (wc.heap[gb101]? = some (.cells #[.int .i64 a0_0, (.slice A0_1 l0_1.length c0_1)] 24 (0, 0))) ∧ Aside0 (wc.heap[gb118]? = some (.cells #[.int .i64 t114, (.slice Ao32 t115.length co32)] 31 (0, 0))) ∧ Aside0 (Below w.heap.size w wc))
 case first =>
  have H := HC17.out; clear HC17; replace H := Option.bind_eq_some_iff.mp H; obtain ⟨t126, A370, H⟩ := H; (try dsimp only at H); have A37 := Aside0.mk A370; clear A370; by_cases c38 : t126 = true
  ·subst c38; rw [if_pos rfl] at H; have H' := Aside0.mk H; clear H; obtain ⟨Ao39, co39, eo39⟩ := Kd.R_slice HO124.out; subst eo39; obtain ⟨Ao40, co40, eo40⟩ := Kd.R_slice HO112.out; subst eo40; (go_wp2_with (first | ((with_reducible refine gate_callee (f := 12) rfl ?_); refine goesL_ (some 49) rfl rfl Try.func12 (by kernel_rfl) rfl #[.slice Ao39 t122.length co39, .slice Ao40 t110.length co40] rfl zz3 ?_; (with_reducible refine (laws_eqIntS.calls k _ _ t122 _ _ t110 true _ ?side1 ?side2 ?side3 ?side4 A37.out).mono ?_); (case side1 => repeat (first | exact (Kd.R_reads' HO124.out).2.2 | (with_reducible refine Kd.C_alloc ?_ _) | (with_reducible refine Kd.C_drewN ?_ _) | (with_reducible refine Kd.C_drew ?_))); (case side2 => exact (Kd.R_reads' HO124.out).2.1); (case side3 => repeat (first | exact (Kd.R_reads' HO112.out).2.2 | (with_reducible refine Kd.C_alloc ?_ _) | (with_reducible refine Kd.C_drewN ?_ _) | (with_reducible refine Kd.C_drew ?_))); (case side4 => exact (Kd.R_reads' HO112.out).2.1); rintro e w' ⟨rfl, ⟨nd, rfl⟩⟩; refine ⟨_, rfl, ?_⟩))); (go_meet); case rel => exact ⟨_, ((t125 != t113)), zz7, H', ⟨by first | omega | exact Nat.le_refl _⟩, ⟨by (with_reducible repeat (first | apply Kd.R_alloc | apply Kd.R_drewN | apply Kd.R_drew)); exact Kd.R_mono HO112.out (fun _ hk => ⟨hk.1.2, hk.2⟩)⟩, ⟨by (with_reducible repeat (first | apply Kd.R_alloc | apply Kd.R_drewN | apply Kd.R_drew)); exact Kd.R_mono HO121.out (fun _ hk => ⟨hk.1.2, hk.2⟩)⟩, ⟨by (with_reducible repeat (first | apply Kd.R_alloc | apply Kd.R_drewN | apply Kd.R_drew)); exact Kd.R_mono HO124.out (fun _ hk => ⟨hk.1.2, hk.2⟩)⟩, ⟨by (with_reducible repeat (first | apply Kd.R_alloc | apply Kd.R_drewN | apply Kd.R_drew)); exact Kd.R_mono HO117.out (fun _ hk => trivial)⟩, ⟨zz1⟩, ⟨zz23⟩, ⟨zz10⟩⟩
  replace c38 := Bool.eq_false_iff.mpr c38; subst c38; rw [if_neg (show ¬ (false = true) by decide)] at H; have H' := Aside0.mk H; clear H; obtain ⟨Ao41, co41, eo41⟩ := Kd.R_slice HO124.out; subst eo41; obtain ⟨Ao42, co42, eo42⟩ := Kd.R_slice HO112.out; subst eo42; (go_wp2_with (first | ((with_reducible refine gate_callee (f := 12) rfl ?_); refine goesL_ (some 49) rfl rfl Try.func12 (by kernel_rfl) rfl #[.slice Ao41 t122.length co41, .slice Ao42 t110.length co42] rfl zz3 ?_; (with_reducible refine (laws_eqIntS.calls k _ _ t122 _ _ t110 false _ ?side1 ?side2 ?side3 ?side4 A37.out).mono ?_); (case side1 => repeat (first | exact (Kd.R_reads' HO124.out).2.2 | (with_reducible refine Kd.C_alloc ?_ _) | (with_reducible refine Kd.C_drewN ?_ _) | (with_reducible refine Kd.C_drew ?_))); (case side2 => exact (Kd.R_reads' HO124.out).2.1); (case side3 => repeat (first | exact (Kd.R_reads' HO112.out).2.2 | (with_reducible refine Kd.C_alloc ?_ _) | (with_reducible refine Kd.C_drewN ?_ _) | (with_reducible refine Kd.C_drew ?_))); (case side4 => exact (Kd.R_reads' HO112.out).2.1); rintro e w' ⟨rfl, ⟨nd, rfl⟩⟩; refine ⟨_, rfl, ?_⟩))); (go_meet); case rel => exact ⟨_, (true), zz7, H', ⟨by first | omega | exact Nat.le_refl _⟩, ⟨by (with_reducible repeat (first | apply Kd.R_alloc | apply Kd.R_drewN | apply Kd.R_drew)); exact Kd.R_mono HO112.out (fun _ hk => ⟨hk.1.2, hk.2⟩)⟩, ⟨by (with_reducible repeat (first | apply Kd.R_alloc | apply Kd.R_drewN | apply Kd.R_drew)); exact Kd.R_mono HO121.out (fun _ hk => ⟨hk.1.2, hk.2⟩)⟩, ⟨by (with_reducible repeat (first | apply Kd.R_alloc | apply Kd.R_drewN | apply Kd.R_drew)); exact Kd.R_mono HO124.out (fun _ hk => ⟨hk.1.2, hk.2⟩)⟩, ⟨by (with_reducible repeat (first | apply Kd.R_alloc | apply Kd.R_drewN | apply Kd.R_drew)); exact Kd.R_mono HO117.out (fun _ hk => trivial)⟩, ⟨zz1⟩, ⟨zz23⟩, ⟨zz10⟩⟩
 case rest =>
  clear HC17; (try clear c1); (try clear p2); (try clear c3); (try clear c4); (try clear c4b0); (try clear c4b1); (try clear c7); (try clear c7b0); (try clear c8); (try clear c9); (try clear c10); (try clear c11); (try clear c12); (try clear c30); (try clear c38); (try clear hcz19_0); (try clear hcz19_1); (try clear hcz21_0); (try clear hcz21_1); (try clear hcz27_0); (try clear hcz27_1); (try clear hcz31_0); (try clear hcz31_1); (try clear hcz34_0); (try clear hcz34_1); (try clear hcz9_0); (try clear hcz9_1); (try clear hfz19_0); (try clear hfz19_1); (try clear hfz21_0); (try clear hfz21_1); (try clear hfz27_0); (try clear hfz27_1); (try clear hfz31_0); (try clear hfz31_1); (try clear hfz34_0); (try clear hfz34_1); (try clear hfz9_0); (try clear hfz9_1); obtain ⟨kq, x55_16, rfl, HA, HJ16, HO_8, HO_11, HO_12, HO_119001, BK101, BK118, HB⟩ := hcut
  cases kq with
  | zero => exact absurd HA.out (by simp [laws_FnExactParkingOfTree.j0])
  | succ kj16 =>
   have H := HA.out; clear HA; simp only [laws_FnExactParkingOfTree.j0] at H; by_cases c43 : x55_16 = true
   ·subst c43; rw [if_pos rfl] at H; exact absurd H (by simp)
   replace c43 := Bool.eq_false_iff.mpr c43; subst c43; rw [if_neg (show ¬ (false = true) by decide)] at H; replace H := Option.bind_eq_some_iff.mp H; obtain ⟨⟨t127, t128⟩, A440, H⟩ := H; dsimp only at H; have A44 := Aside0.mk A440; clear A440; replace H := Option.bind_eq_some_iff.mp H; obtain ⟨t131, A450, H⟩ := H; (try dsimp only at H); have A45 := Aside0.mk A450; clear A450; by_cases c46 : t131 = true; rotate_left
   ·replace c46 := Bool.eq_false_iff.mpr c46; subst c46; rw [if_neg (show ¬ (false = true) by decide)] at H; exact absurd H (by simp)
   subst c46; rw [if_pos rfl] at H; replace H := Option.bind_eq_some_iff.mp H; obtain ⟨t132, A470, H⟩ := H; (try dsimp only at H); have A47 := Aside0.mk A470; clear A470; replace H := Option.bind_eq_some_iff.mp H; obtain ⟨t135, A480, H⟩ := H; (try dsimp only at H); have A48 := Aside0.mk A480; clear A480; by_cases c49 : t135 = true; rotate_left
   ·replace c49 := Bool.eq_false_iff.mpr c49; subst c49; rw [if_neg (show ¬ (false = true) by decide)] at H; exact absurd H (by simp)
   subst c49; rw [if_pos rfl] at H; replace H := Option.bind_eq_some_iff.mp H; obtain ⟨⟨t136, t137⟩, A500, H⟩ := H; dsimp only at H; have A50 := Aside0.mk A500; clear A500; replace H := Option.bind_eq_some_iff.mp H; obtain ⟨⟨t138, t139⟩, A510, H⟩ := H; dsimp only at H; have A51 := Aside0.mk A510; clear A510; have HC52 := Aside0.mk H; clear H; (try go_wp2); have n_ := zA7 (Kd.R_drew HO_8.out) (Kd.R_drew HO_11.out) (Kd.R_drew HO_12.out) (Kd.R_drew HO_119001.out) (blk_drew BK101.out) (blk_drew BK118.out) (below_drew1 HB.out); clear HO_8 HO_11 HO_12 HO_119001 BK101 BK118 HB; obtain ⟨HO_8, HO_11, HO_12, HO_119001, BK101, BK118, HB⟩ := n_; refine start_ (n := 5) (S := fun w' => w'.cell? ⟨gb118, 0, none⟩ = some (.int .i64 t114) ∧ w'.cell? ⟨gb118, 1, none⟩ = some (.slice Ao32 t115.length co32) ∧ w'.cell? ⟨gb101, 0, none⟩ = some (.int .i64 a0_0) ∧ w'.cell? ⟨gb101, 1, none⟩ = some (.slice A0_1 l0_1.length c0_1)) (ds := []) (zM 5 0) (by kernel_rfl) rfl rfl ⟨(blk_cell BK118.out 0).trans rfl, (blk_cell BK118.out 1).trans rfl, (blk_cell BK101.out 0).trans rfl, (blk_cell BK101.out 1).trans rfl⟩ (fun hHeld => ?_); generalize wc.drew = w53 at HO_8 HO_11 HO_12 HO_119001 BK101 BK118 HB hHeld ⊢; refine take_ (i := 0) (N := some 56) (v := ?_) (a' := ?_) (zM 5 1) rfl rfl (by kernel_rfl) (fun _ _ _ h => h) (Or.inl ⟨by rfl, ?_⟩) hHeld ?_ ?_; rotate_left
   ·rintro w' ⟨s0, s1, s2, s3⟩; exact zzT
   rotate_left
   ·exact zzS
   refine take_ (i := 1) (N := some 57) (v := ?_) (a' := ?_) (zM 5 3) rfl rfl (by kernel_rfl) (fun _ _ _ h => h) (Or.inl ⟨by rfl, ?_⟩) hHeld ?_ ?_; rotate_left
   ·rintro w' ⟨s0, s1, s2, s3⟩; exact zzT
   rotate_left
   ·exact zzS
   refine one_ (i := 2) (N := some 58) (zM 5 7) rfl rfl (by kernel_rfl) (by decide) (fun K hK => ?_); refine goes_ Try.func9 (by kernel_rfl) rfl #[.agg #[.int .i64 a0_0, .slice A0_1 l0_1.length c0_1]] (by rfl) rfl rfl zz3 ?_; (with_reducible refine (laws_toGraph.calls kj16 a0_0 _ _ l0_1 t127 t128 _ ?side1 ?side2 A44.out).mono ?_); (case side1 => exact zz8); (case side2 => exact HC0_1.out); rintro e w54 ⟨v129, rfl, ho0, hb⟩; refine ⟨_, rfl, ?_⟩; have n_ := zA8 (Kd.R_below zz26 hb) (Kd.R_below (by (with_reducible repeat (first | apply Kd.R_alloc | apply Kd.R_drewN | apply Kd.R_drew)); exact HO_11.out) hb) (Kd.R_below zz25 hb) (Kd.R_elder' zz30 (Kd.R_base ho0) hb) (Kd.R_lower (Kd.R_new' ho0 (Kd.R_lt zz30)) (below_size zz10)) (blk_below (g := gb101) (o := .cells #[.int .i64 a0_0, .slice A0_1 l0_1.length c0_1] 24 (0, 0)) zz1 hb) (blk_below (g := gb118) (o := .cells #[.int .i64 t114, .slice Ao32 t115.length co32] 31 (0, 0)) zz23 hb) (below_step zz10 hb); clear HO_8 HO_11 HO_12 HO_119001 BK101 BK118 HB; obtain ⟨HO_8, HO_11, HO_12, HO_119001, HO130, BK101, BK118, HB⟩ := n_; clear ho0 hb; obtain ⟨Ao55, co55, eo55⟩ := Kd.R_slice HO130.out; (first | subst eo55 | (injection eo55 with f1_ f2_ f3_; have f4_ := f1_.symm; have f5_ := f3_.symm; clear f1_ f2_ f3_; subst f4_; subst f5_)); refine hK.out _ _ ⟨(blk_cell BK118.out 0).trans rfl, (blk_cell BK118.out 1).trans rfl, (blk_cell BK101.out 0).trans rfl, (blk_cell BK101.out 1).trans rfl⟩ (fun hHeld => ?_); clear hK K; refine norm_ (a' := ?_) ?_ ?_; rotate_left
   ·show Act.put _ (some 58) _ = _; exact zzS
   refine one_ (i := 3) (N := some 59) (zM 5 15) rfl rfl (by kernel_rfl) (by decide) (fun K hK => ?_); refine goes_ Try.func13 (by kernel_rfl) rfl #[.agg #[.int .i64 t114, .slice Ao32 t115.length co32], .agg #[.int .i64 t127, .slice Ao55 t128.length co55]] (by rfl) rfl rfl zz3 ?_; (with_reducible refine (laws_eqGraph.calls kj16 t114 _ _ t115 t127 _ _ t128 true _ ?side1 ?side2 ?side3 ?side4 A45.out).mono ?_); (case side1 => repeat (first | exact (Kd.R_reads' HO_119001.out).2.2 | (with_reducible refine Kd.C_alloc ?_ _) | (with_reducible refine Kd.C_drewN ?_ _) | (with_reducible refine Kd.C_drew ?_))); (case side2 => exact (Kd.R_reads' HO_119001.out).2.1); (case side3 => repeat (first | exact (Kd.R_reads' HO130.out).2.2 | (with_reducible refine Kd.C_alloc ?_ _) | (with_reducible refine Kd.C_drewN ?_ _) | (with_reducible refine Kd.C_drew ?_))); (case side4 => exact (Kd.R_reads' HO130.out).2.1); rintro e w56 ⟨rfl, hb⟩; refine ⟨_, rfl, ?_⟩; have n_ := zA8 (Kd.R_below zz26 hb) (Kd.R_below (by (with_reducible repeat (first | apply Kd.R_alloc | apply Kd.R_drewN | apply Kd.R_drew)); exact HO_11.out) hb) (Kd.R_below zz25 hb) (Kd.R_below zz30 hb) (Kd.R_below (by (with_reducible repeat (first | apply Kd.R_alloc | apply Kd.R_drewN | apply Kd.R_drew)); exact HO130.out) hb) (blk_below (g := gb101) (o := .cells #[.int .i64 a0_0, .slice A0_1 l0_1.length c0_1] 24 (0, 0)) zz1 hb) (blk_below (g := gb118) (o := .cells #[.int .i64 t114, .slice Ao32 t115.length co32] 31 (0, 0)) zz23 hb) (below_step zz10 hb); clear HO_8 HO_11 HO_12 HO_119001 HO130 BK101 BK118 HB; obtain ⟨HO_8, HO_11, HO_12, HO_119001, HO130, BK101, BK118, HB⟩ := n_; clear hb; refine hK.out _ _ ⟨(blk_cell BK118.out 0).trans rfl, (blk_cell BK118.out 1).trans rfl, (blk_cell BK101.out 0).trans rfl, (blk_cell BK101.out 1).trans rfl⟩ (fun hHeld => ?_); clear hK K; refine norm_ (a' := ?_) ?_ ?_; rotate_left
   ·show Act.put _ (some 59) _ = _; exact zzS
   refine pure_ (i := 4) (N := some 60) (v := ?_) (a' := ?_) (zM 5 31) rfl rfl (by kernel_rfl) (fun _ _ _ h => h) (Or.inl ⟨by rfl, ?_⟩) ?_ ?_; rotate_left
   ·intro w'; exact zzT
   rotate_left
   ·exact zzS
   refine done_ (by kernel_rfl) ?_; (go_upto_region 20 with (first | ((with_reducible refine gate_callee (f := 10) rfl ?_); refine goesL_ (some 63) rfl rfl Try.func10 (by kernel_rfl) rfl #[.slice A1 l1.length c1] rfl zz3 ?_; (with_reducible refine (laws_toIntS.calls kj16 _ _ l1 t132 _ ?side1 ?side2 A47.out).mono ?_); (case side1 => exact zz21); (case side2 => exact HC1.out); rintro e w57 ⟨v133, rfl, ho0, hb⟩; refine ⟨_, rfl, ?_⟩; have n_ := zA9 (Kd.R_elder' zz26 (Kd.R_base ho0) hb) (Kd.R_elder' (by (with_reducible repeat (first | apply Kd.R_alloc | apply Kd.R_drewN | apply Kd.R_drew)); exact HO_11.out) (Kd.R_base ho0) hb) (Kd.R_elder' zz25 (Kd.R_base ho0) hb) (Kd.R_below zz30 hb) (Kd.R_below (by (with_reducible repeat (first | apply Kd.R_alloc | apply Kd.R_drewN | apply Kd.R_drew)); exact HO130.out) hb) (Kd.R_lower (Kd.R_new' (Kd.R_new' (Kd.R_new' ho0 (Kd.R_lt zz26)) (Kd.R_lt (by (with_reducible repeat (first | apply Kd.R_alloc | apply Kd.R_drewN | apply Kd.R_drew)); exact HO_11.out))) (Kd.R_lt zz25)) (below_size zz10)) (blk_below (g := gb101) (o := .cells #[.int .i64 a0_0, .slice A0_1 l0_1.length c0_1] 24 (0, 0)) zz1 hb) (blk_below (g := gb118) (o := .cells #[.int .i64 t114, .slice Ao32 t115.length co32] 31 (0, 0)) zz23 hb) (below_step zz10 hb); clear HO_8 HO_11 HO_12 HO_119001 HO130 BK101 BK118 HB; obtain ⟨HO_8, HO_11, HO_12, HO_119001, HO130, HO134, BK101, BK118, HB⟩ := n_; clear ho0 hb; obtain ⟨Ao58, co58, eo58⟩ := Kd.R_slice HO134.out; subst eo58) | ((with_reducible refine gate_callee (f := 12) rfl ?_); refine goesL_ (some 64) rfl rfl Try.func12 (by kernel_rfl) rfl #[.slice Ao35 t119.length co35, .slice Ao58 t132.length co58] rfl zz3 ?_; (with_reducible refine (laws_eqIntS.calls kj16 _ _ t119 _ _ t132 true _ ?side1 ?side2 ?side3 ?side4 A48.out).mono ?_); (case side1 => repeat (first | exact (Kd.R_reads' HO_11.out).2.2 | (with_reducible refine Kd.C_alloc ?_ _) | (with_reducible refine Kd.C_drewN ?_ _) | (with_reducible refine Kd.C_drew ?_))); (case side2 => exact (Kd.R_reads' HO_11.out).2.1); (case side3 => repeat (first | exact (Kd.R_reads' HO134.out).2.2 | (with_reducible refine Kd.C_alloc ?_ _) | (with_reducible refine Kd.C_drewN ?_ _) | (with_reducible refine Kd.C_drew ?_))); (case side4 => exact (Kd.R_reads' HO134.out).2.1); rintro e w' ⟨rfl, ⟨nd, rfl⟩⟩; refine ⟨_, rfl, ?_⟩; have hnb59 := NB118_101.out; have hnc59 := NB101_118.out; have hcz60_0 := zC20 BK118; have hcz60_1 := zC21 BK118; have hfz60_0 := blk_frozen BK118.out 0; have hfz60_1 := blk_frozen BK118.out 1) | ((with_reducible refine gate_callee (f := 14) rfl ?_); refine goesL_ (some 68) rfl rfl Try.func14 (by kernel_rfl) rfl #[.agg #[.int .i64 t114, .slice Ao32 t115.length co32], .int .i64 1] rfl zz3 ?_; (with_reducible refine (laws_markGraph.calls kj16 t114 (fun k_ => some k_ = (.slice Ao32 t115.length co32 : Value).ownBlock) (.slice Ao32 t115.length co32) t115 1 t136 t137 w _ ?side1 ?side2 A50.out).mono ?_); (case side1 => exact zz10); (case side2 => exact Kd.R_tight rfl HO_119001.out); rintro e w61 ⟨rfl, hy0, hb, hkp⟩; refine ⟨_, rfl, ?_⟩; have n_ := zA9 (Kd.R_mono (ok' := fun k_ => some k_ ≠ (.slice Ao35 t119.length co35 : Value).ownBlock ∧ some k_ ≠ (v123 : Value).ownBlock ∧ some k_ ≠ (.slice Ao58 t132.length co58 : Value).ownBlock) (Kd.R_keptB ((Kd.R_apart' HO_8.out (Kd.R_typed HO_119001.out) (by decide))) hkp (fun k_ hk_ hs_ => (hk_.2) hs_)) (fun k_ hk_ => ⟨hk_.1.1.1.1, hk_.1.1.1.2, hk_.1.1.2⟩)) (Kd.R_mono (ok' := fun k_ => some k_ ≠ (v111 : Value).ownBlock ∧ some k_ ≠ (v123 : Value).ownBlock ∧ some k_ ≠ (.slice Ao58 t132.length co58 : Value).ownBlock) (Kd.R_keptB ((Kd.R_apart' HO_11.out (Kd.R_typed HO_119001.out) (by decide))) hkp (fun k_ hk_ hs_ => (hk_.2) hs_)) (fun k_ hk_ => ⟨hk_.1.1.1.1, hk_.1.1.1.2, hk_.1.1.2⟩)) (Kd.R_mono (ok' := fun k_ => some k_ ≠ (v111 : Value).ownBlock ∧ some k_ ≠ (.slice Ao35 t119.length co35 : Value).ownBlock ∧ some k_ ≠ (.slice Ao58 t132.length co58 : Value).ownBlock) (Kd.R_keptB ((Kd.R_apart' HO_12.out (Kd.R_typed HO_119001.out) (by decide))) hkp (fun k_ hk_ hs_ => (hk_.2) hs_)) (fun k_ hk_ => ⟨hk_.1.1.1.1, hk_.1.1.1.2, hk_.1.1.2⟩)) (Kd.R_reok rfl hy0 (fun k_ e_ => HO_119001.out.1 k_ e_)) (blk_kept zz1 hkp (fun hs_ => (fun e_ => (Kd.R_ne HO_119001.out BK101.out (by decide)) e_) hs_)) (blk_kept zz23 hkp (fun hs_ => (fun e_ => (Kd.R_ne HO_119001.out BK118.out (by decide)) e_) hs_)) (Kd.R_mono (ok' := fun k_ => some k_ ≠ (.slice Ao32 t115.length co32 : Value).ownBlock) (Kd.R_keptB (HO130.out) hkp (fun k_ hk_ hs_ => (hk_.2) hs_)) (fun k_ hk_ => hk_.1.2)) (Kd.R_mono (ok' := fun k_ => some k_ ≠ (v111 : Value).ownBlock ∧ some k_ ≠ (.slice Ao35 t119.length co35 : Value).ownBlock ∧ some k_ ≠ (v123 : Value).ownBlock) (Kd.R_keptB ((Kd.R_apart' HO134.out (Kd.R_typed HO_119001.out) (by decide))) hkp (fun k_ hk_ hs_ => (hk_.2) hs_)) (fun k_ hk_ => ⟨hk_.1.1.1.1.2, hk_.1.1.1.2, hk_.1.1.2⟩)) hb; clear HO_8 HO_11 HO_12 HO_119001 BK101 BK118 HO130 HO134 HB; obtain ⟨HO_8, HO_11, HO_12, HO_119001, BK101, BK118, HO130, HO134, HB⟩ := n_; clear hy0 hb hkp) | ((with_reducible refine gate_callee (f := 15) rfl ?_); refine goesL_ (some 71) rfl rfl Try.func15 (by kernel_rfl) rfl #[.slice Ao35 t119.length co35, .int .i64 t136] rfl zz3 ?_; (with_reducible refine (laws_markIntS.calls kj16 (fun k_ => some k_ = (.slice Ao35 t119.length co35 : Value).ownBlock) (.slice Ao35 t119.length co35) t119 t136 t138 t139 w _ ?side1 ?side2 A51.out).mono ?_); (case side1 => exact zz10); (case side2 => exact Kd.R_tight rfl HO_11.out); rintro e w62 ⟨rfl, hy0, hb, hkp⟩; refine ⟨_, rfl, ?_⟩; have n_ := zA9 (Kd.R_mono (ok' := fun k_ => some k_ ≠ (.slice Ao35 t119.length co35 : Value).ownBlock ∧ some k_ ≠ (v123 : Value).ownBlock ∧ some k_ ≠ (.slice Ao58 t132.length co58 : Value).ownBlock) (Kd.R_keptB (HO_8.out) hkp (fun k_ hk_ hs_ => (hk_.1) hs_)) (fun k_ hk_ => ⟨hk_.1.1, hk_.1.2.1, hk_.1.2.2⟩)) (Kd.R_reok rfl hy0 (fun k_ e_ => HO_11.out.1 k_ e_)) (Kd.R_mono (ok' := fun k_ => some k_ ≠ (v111 : Value).ownBlock ∧ some k_ ≠ (.slice Ao35 t119.length co35 : Value).ownBlock ∧ some k_ ≠ (.slice Ao58 t132.length co58 : Value).ownBlock) (Kd.R_keptB (HO_12.out) hkp (fun k_ hk_ hs_ => (hk_.2.1) hs_)) (fun k_ hk_ => ⟨hk_.1.1, hk_.1.2.1, hk_.1.2.2⟩)) (Kd.R_mono (ok' := fun k_ => some k_ ≠ (.slice Ao55 t128.length co55 : Value).ownBlock) (Kd.R_keptB ((Kd.R_apart' HO_119001.out (Kd.R_typed HO_11.out) (by decide))) hkp (fun k_ hk_ hs_ => (hk_.2) hs_)) (fun k_ hk_ => hk_.1.1.2)) (blk_kept zz1 hkp (fun hs_ => (fun e_ => (Kd.R_ne HO_11.out BK101.out (by decide)) e_) hs_)) (blk_kept zz23 hkp (fun hs_ => (fun e_ => (Kd.R_ne HO_11.out BK118.out (by decide)) e_) hs_)) (Kd.R_mono (ok' := fun k_ => some k_ ≠ (.slice Ao32 t115.length co32 : Value).ownBlock) (Kd.R_keptB ((Kd.R_apart' HO130.out (Kd.R_typed HO_11.out) (by decide))) hkp (fun k_ hk_ hs_ => (hk_.2) hs_)) (fun k_ hk_ => hk_.1.1)) (Kd.R_mono (ok' := fun k_ => some k_ ≠ (v111 : Value).ownBlock ∧ some k_ ≠ (.slice Ao35 t119.length co35 : Value).ownBlock ∧ some k_ ≠ (v123 : Value).ownBlock) (Kd.R_keptB (HO134.out) hkp (fun k_ hk_ hs_ => (hk_.2.1) hs_)) (fun k_ hk_ => ⟨hk_.1.1, hk_.1.2.1, hk_.1.2.2⟩)) hb; clear HO_8 HO_11 HO_12 HO_119001 BK101 BK118 HO130 HO134 HB; obtain ⟨HO_8, HO_11, HO_12, HO_119001, BK101, BK118, HO130, HO134, HB⟩ := n_; clear hy0 hb hkp))); (try simp only [Act.put, List.setIfInBounds_toArray, List.set_cons_zero, List.set_cons_succ]); go_cut [84] (fun v84 wc => ∃ (kq : Nat) (x84_51 : Bool), v84 = .bool x84_51 ∧ Aside0 (laws_FnExactParkingOfTree.j1 kq l1 a2 t110 t113 t122 x84_51 a0_0 l0_1 = some r) ∧ Aside0 (kq ≤ kj16) ∧ Aside0 (Kd.R (Kd.int .i64) 3 wc w.heap.size (fun k_ => some k_ ≠ (v123 : Value).ownBlock) v111 t110) ∧ Aside0 (Kd.R (Kd.int .i64) 3 wc w.heap.size (fun k_ => some k_ ≠ (v111 : Value).ownBlock) v123 t122) ∧ Aside0 (Kd.R k74 74 wc w.heap.size (fun _ => True) (.slice Ao32 t115.length co32) t137) ∧ Aside0 (wc.heap[gb101]? = some (.cells #[.int .i64 a0_0, (.slice A0_1 l0_1.length c0_1)] 24 (0, 0))) ∧ Aside0 (wc.heap[gb118]? = some (.cells #[.int .i64 t114, (.slice Ao32 t115.length co32)] 31 (0, 0))) ∧ Aside0 (Below w.heap.size w wc))
   case first =>
    have H := HC52.out; clear HC52; by_cases c63 : t138 < 0
    ·rw [if_pos c63] at H; have c63b0 := decide_eq_true c63; clear c63; (first | rw [c63b0] | (simp only [i64_w, i32_w]; rw [c63b0]) | skip); have H' := Aside0.mk H; clear H; go_wp2; (go_meet); case rel => exact ⟨_, (true), zz7, H', ⟨by have := HJ16.out; first | omega | exact Nat.le_refl _⟩, ⟨by (with_reducible repeat (first | apply Kd.R_alloc | apply Kd.R_drewN | apply Kd.R_drew)); exact Kd.R_mono HO_8.out (fun _ hk => hk.2.1)⟩, ⟨by (with_reducible repeat (first | apply Kd.R_alloc | apply Kd.R_drewN | apply Kd.R_drew)); exact Kd.R_mono HO_12.out (fun _ hk => hk.1)⟩, ⟨by (with_reducible repeat (first | apply Kd.R_alloc | apply Kd.R_drewN | apply Kd.R_drew)); exact Kd.R_mono HO_119001.out (fun _ hk => trivial)⟩, ⟨zz1⟩, ⟨zz23⟩, ⟨zz10⟩⟩
    rw [if_neg c63] at H; have c63b0 := decide_eq_false c63; clear c63; (first | rw [c63b0] | (simp only [i64_w, i32_w]; rw [c63b0]) | skip); replace H := Option.bind_eq_some_iff.mp H; obtain ⟨t140, A640, H⟩ := H; (try dsimp only at H); have A64 := Aside0.mk A640; clear A640; by_cases c65 : t140 = true
    ·subst c65; rw [if_pos rfl] at H; have H' := Aside0.mk H; clear H; obtain ⟨Ao66, co66, eo66⟩ := Kd.R_slice HO_12.out; subst eo66; obtain ⟨Ao67, co67, eo67⟩ := Kd.R_slice HO_8.out; subst eo67; (go_wp2_with (first | (go_at_call 12; (with_reducible refine (laws_eqIntS.calls kj16 _ _ t122 _ _ t110 true _ ?side1 ?side2 ?side3 ?side4 A64.out).mono ?_); (case side1 => exact zz35); (case side2 => exact (Kd.R_reads' HO_12.out).2.1); (case side3 => exact zz36); (case side4 => exact (Kd.R_reads' HO_8.out).2.1); rintro e w' ⟨rfl, ⟨nd, rfl⟩⟩))); (go_meet); case rel => exact ⟨_, ((t125 != t113)), zz7, H', ⟨by have := HJ16.out; first | omega | exact Nat.le_refl _⟩, ⟨by (with_reducible repeat (first | apply Kd.R_alloc | apply Kd.R_drewN | apply Kd.R_drew)); exact Kd.R_mono HO_8.out (fun _ hk => hk.2.1)⟩, ⟨by (with_reducible repeat (first | apply Kd.R_alloc | apply Kd.R_drewN | apply Kd.R_drew)); exact Kd.R_mono HO_12.out (fun _ hk => hk.1)⟩, ⟨by (with_reducible repeat (first | apply Kd.R_alloc | apply Kd.R_drewN | apply Kd.R_drew)); exact Kd.R_mono HO_119001.out (fun _ hk => trivial)⟩, ⟨zz1⟩, ⟨zz23⟩, ⟨zz10⟩⟩
    replace c65 := Bool.eq_false_iff.mpr c65; subst c65; rw [if_neg (show ¬ (false = true) by decide)] at H; have H' := Aside0.mk H; clear H; obtain ⟨Ao68, co68, eo68⟩ := Kd.R_slice HO_12.out; subst eo68; obtain ⟨Ao69, co69, eo69⟩ := Kd.R_slice HO_8.out; subst eo69; (go_wp2_with (first | (go_at_call 12; (with_reducible refine (laws_eqIntS.calls kj16 _ _ t122 _ _ t110 false _ ?side1 ?side2 ?side3 ?side4 A64.out).mono ?_); (case side1 => exact zz35); (case side2 => exact (Kd.R_reads' HO_12.out).2.1); (case side3 => exact zz36); (case side4 => exact (Kd.R_reads' HO_8.out).2.1); rintro e w' ⟨rfl, ⟨nd, rfl⟩⟩))); (go_meet); case rel => exact ⟨_, (true), zz7, H', ⟨by have := HJ16.out; first | omega | exact Nat.le_refl _⟩, ⟨by (with_reducible repeat (first | apply Kd.R_alloc | apply Kd.R_drewN | apply Kd.R_drew)); exact Kd.R_mono HO_8.out (fun _ hk => hk.2.1)⟩, ⟨by (with_reducible repeat (first | apply Kd.R_alloc | apply Kd.R_drewN | apply Kd.R_drew)); exact Kd.R_mono HO_12.out (fun _ hk => hk.1)⟩, ⟨by (with_reducible repeat (first | apply Kd.R_alloc | apply Kd.R_drewN | apply Kd.R_drew)); exact Kd.R_mono HO_119001.out (fun _ hk => trivial)⟩, ⟨zz1⟩, ⟨zz23⟩, ⟨zz10⟩⟩
   case rest =>
    clear HC52; (try clear c1); (try clear p2); (try clear c3); (try clear c4); (try clear c4b0); (try clear c4b1); (try clear c5); (try clear c6); (try clear c7); (try clear c7b0); (try clear c8); (try clear c9); (try clear c10); (try clear c11); (try clear c12); (try clear c13); (try clear c14); (try clear c15); (try clear c30); (try clear c38); (try clear c43); (try clear c46); (try clear c49); (try clear c59); (try clear c63); (try clear c63b0); (try clear c65); (try clear hcz19_0); (try clear hcz19_1); (try clear hcz21_0); (try clear hcz21_1); (try clear hcz27_0); (try clear hcz27_1); (try clear hcz31_0); (try clear hcz31_1); (try clear hcz34_0); (try clear hcz34_1); (try clear hcz60_0); (try clear hcz60_1); (try clear hcz9_0); (try clear hcz9_1); (try clear hfz19_0); (try clear hfz19_1); (try clear hfz21_0); (try clear hfz21_1); (try clear hfz27_0); (try clear hfz27_1); (try clear hfz31_0); (try clear hfz31_1); (try clear hfz34_0); (try clear hfz34_1); (try clear hfz60_0); (try clear hfz60_1); (try clear hfz9_0); (try clear hfz9_1); (try clear p2); obtain ⟨kq, x84_51, rfl, HA, HJ51, HO_8, HO_12, HO_119001, BK101, BK118, HB⟩ := hcut; have hl119001_51 := (Kd.R_reads' HO_119001.out).1; rw [hl119001_51] at HO_119001; (try simp only [hl119001_51]); (try simp only [hl119001_51] at BK101); (try simp only [hl119001_51] at BK118); (try simp only [hl119001_51] at HO_8); (try simp only [hl119001_51] at HO_12)
    cases kq with
    | zero => exact absurd HA.out (by simp [laws_FnExactParkingOfTree.j1])
    | succ kj51 =>
     have H := HA.out; clear HA; simp only [laws_FnExactParkingOfTree.j1] at H; by_cases c70 : x84_51 = true
     ·subst c70; rw [if_pos rfl] at H; exact absurd H (by simp)
     replace c70 := Bool.eq_false_iff.mpr c70; subst c70; rw [if_neg (show ¬ (false = true) by decide)] at H; replace H := Option.bind_eq_some_iff.mp H; obtain ⟨⟨t141, t142⟩, A710, H⟩ := H; dsimp only at H; have A71 := Aside0.mk A710; clear A710; replace H := Option.bind_eq_some_iff.mp H; obtain ⟨t143, A720, H⟩ := H; (try dsimp only at H); have A72 := Aside0.mk A720; clear A720; by_cases c73 : t143 < 0
     ·rw [if_pos c73] at H; exact absurd H (by simp)
     rw [if_neg c73] at H; have c73b0 := decide_eq_false c73; clear c73; by_cases c74 : t143 = t141; rotate_left
     ·rw [if_neg c74] at H; exact absurd H (by simp)
     rw [if_pos c74] at H; have c74b0 : (t143 == t141) = true := beq_iff_eq.mpr c74; have c74b1 : (t143 != t141) = false := bne_eq_false_iff_eq.mpr c74; clear c74; replace H := Option.bind_eq_some_iff.mp H; obtain ⟨⟨t144, t145⟩, A750, H⟩ := H; dsimp only at H; have A75 := Aside0.mk A750; clear A750; replace H := Option.bind_eq_some_iff.mp H; obtain ⟨t148, A760, H⟩ := H; (try dsimp only at H); have A76 := Aside0.mk A760; clear A760; replace H := Option.bind_eq_some_iff.mp H; obtain ⟨⟨t151, t154⟩, A770, H⟩ := H; dsimp only at H; have A77 := Aside0.mk A770; clear A770; have HC78 := Aside0.mk H; clear H; obtain ⟨Ao79, co79, eo79⟩ := Kd.R_slice HO_12.out; subst eo79; (go_upto_region 31 with (first | ((with_reducible refine gate_callee (f := 15) rfl ?_); refine goesL_ (some 87) rfl rfl Try.func15 (by kernel_rfl) rfl #[.slice Ao79 t122.length co79, .int .i64 1] rfl zz3 ?_; (with_reducible refine (laws_markIntS.calls kj51 (fun k_ => some k_ = (.slice Ao79 t122.length co79 : Value).ownBlock) (.slice Ao79 t122.length co79) t122 1 t141 t142 w _ ?side1 ?side2 A71.out).mono ?_); (case side1 => exact zz10); (case side2 => exact Kd.R_tight rfl HO_12.out); rintro e w80 ⟨rfl, hy0, hb, hkp⟩; refine ⟨_, rfl, ?_⟩; have n_ := zA6 (Kd.R_mono (ok' := fun k_ => some k_ ≠ (.slice Ao79 t122.length co79 : Value).ownBlock) (Kd.R_keptB (HO_8.out) hkp (fun k_ hk_ hs_ => (hk_) hs_)) (fun k_ hk_ => hk_.1)) (Kd.R_reok rfl hy0 (fun k_ e_ => HO_12.out.1 k_ e_)) (Kd.R_mono (ok' := fun k_ => True) (Kd.R_keptB ((Kd.R_apart' HO_119001.out (Kd.R_typed HO_12.out) (by decide))) hkp (fun k_ hk_ hs_ => (hk_.2) hs_)) (fun k_ hk_ => trivial)) (blk_kept zz1 hkp (fun hs_ => (fun e_ => (Kd.R_ne HO_12.out BK101.out (by decide)) e_) hs_)) (blk_kept zz23 hkp (fun hs_ => (fun e_ => (Kd.R_ne HO_12.out BK118.out (by decide)) e_) hs_)) hb; clear HO_8 HO_12 HO_119001 BK101 BK118 HB; obtain ⟨HO_8, HO_12, HO_119001, BK101, BK118, HB⟩ := n_; clear hy0 hb hkp) | ((with_reducible refine gate_callee (f := 16) rfl ?_); refine goesL_ (some 90) rfl rfl Try.func16 (by kernel_rfl) rfl #[.slice Ao79 t142.length co79, .int .i64 1] rfl (by (try simp only [List.map_toArray, List.map_cons, List.map_nil]); first | done | (rw [show t142.length = t122.length from (Kd.R_reads' HO_12.out).1.symm] <;> rfl) | rfl | (simp only [List.length_drop, List.length_take]; rfl)) ?_; (with_reducible refine (laws_heldIntS.calls kj51 _ _ t142 1 t143 _ ?side1 ?side2 A72.out).mono ?_); (case side1 => exact zz35); (case side2 => rw [show t142.length = t122.length from (Kd.R_reads' HO_12.out).1.symm]; exact (Kd.R_reads' HO_12.out).2.1); rintro e w' ⟨rfl, ⟨nd, rfl⟩⟩; refine ⟨_, rfl, ?_⟩; have hnb81 := NB101_118.out; have hnc81 := NB118_101.out; have hcz82_0 := zC20 BK101; have hcz82_1 := zC21 BK101; have hfz82_0 := blk_frozen BK101.out 0; have hfz82_1 := blk_frozen BK101.out 1) | ((with_reducible refine gate_callee (f := 9) rfl ?_); refine goesL_ (some 98) rfl rfl Try.func9 (by kernel_rfl) rfl #[.agg #[.int .i64 a0_0, .slice A0_1 l0_1.length c0_1]] rfl zz3 ?_; (with_reducible refine (laws_toGraph.calls kj51 a0_0 _ _ l0_1 t144 t145 _ ?side1 ?side2 A75.out).mono ?_); (case side1 => repeat (first | exact (Kd.C_below HR0_1.out zz10) | (with_reducible refine Kd.C_alloc ?_ _) | (with_reducible refine Kd.C_drewN ?_ _) | (with_reducible refine Kd.C_drew ?_))); (case side2 => exact HC0_1.out); rintro e w83 ⟨v146, rfl, ho0, hb⟩; refine ⟨_, rfl, ?_⟩; have n_ := zA7 (Kd.R_below zz26 hb) (Kd.R_below zz25 hb) (Kd.R_elder' zz30 (Kd.R_base ho0) hb) (Kd.R_lower (Kd.R_new' ho0 (Kd.R_lt zz30)) (below_size zz10)) (blk_below (g := gb101) (o := .cells #[.int .i64 a0_0, .slice A0_1 l0_1.length c0_1] 24 (0, 0)) zz1 hb) (blk_below (g := gb118) (o := .cells #[.int .i64 t114, .slice Ao32 t137.length co32] 31 (0, 0)) zz23 hb) (below_step zz10 hb); clear HO_8 HO_12 HO_119001 BK101 BK118 HB; obtain ⟨HO_8, HO_12, HO_119001, HO147, BK101, BK118, HB⟩ := n_; clear ho0 hb) | ((with_reducible refine gate_callee (f := 10) rfl ?_); refine goesL_ (some 100) rfl rfl Try.func10 (by kernel_rfl) rfl #[.slice A1 l1.length c1] rfl zz3 ?_; (with_reducible refine (laws_toIntS.calls kj51 _ _ l1 t148 _ ?side1 ?side2 A76.out).mono ?_); (case side1 => exact zz21); (case side2 => exact HC1.out); rintro e w84 ⟨v149, rfl, ho0, hb⟩; refine ⟨_, rfl, ?_⟩; have n_ := zA8 (Kd.R_elder' zz26 (Kd.R_base ho0) hb) (Kd.R_elder' zz25 (Kd.R_base ho0) hb) (Kd.R_below zz30 hb) (Kd.R_below (by (with_reducible repeat (first | apply Kd.R_alloc | apply Kd.R_drewN | apply Kd.R_drew)); exact HO147.out) hb) (Kd.R_lower (Kd.R_new' (Kd.R_new' ho0 (Kd.R_lt zz26)) (Kd.R_lt zz25)) (below_size zz10)) (blk_below (g := gb101) (o := .cells #[.int .i64 a0_0, .slice A0_1 l0_1.length c0_1] 24 (0, 0)) zz1 hb) (blk_below (g := gb118) (o := .cells #[.int .i64 t114, .slice Ao32 t137.length co32] 31 (0, 0)) zz23 hb) (below_step zz10 hb); clear HO_8 HO_12 HO_119001 HO147 BK101 BK118 HB; obtain ⟨HO_8, HO_12, HO_119001, HO147, HO150, BK101, BK118, HB⟩ := n_; clear ho0 hb; obtain ⟨Ao85, co85, eo85⟩ := Kd.R_slice HO147.out; subst eo85; obtain ⟨Ao86, co86, eo86⟩ := Kd.R_slice HO150.out; subst eo86) | ((with_reducible refine gate_callee (f := 11) rfl ?_); refine goesL_ (some 102) rfl rfl Try.func11 (by kernel_rfl) rfl #[.agg #[.int .i64 t144, .slice Ao85 t145.length co85], .slice Ao86 t148.length co86, .int .i64 a2] rfl zz3 ?_; (with_reducible refine (impl_ParkingOfTree.calls kj51 t144 _ _ t145 _ _ t148 a2 t151 t154 _ ?side1 ?side2 ?side3 ?side4 A77.out).mono ?_); (case side1 => repeat (first | exact (Kd.R_reads' HO147.out).2.2 | (with_reducible refine Kd.C_alloc ?_ _) | (with_reducible refine Kd.C_drewN ?_ _) | (with_reducible refine Kd.C_drew ?_))); (case side2 => exact (Kd.R_reads' HO147.out).2.1); (case side3 => repeat (first | exact (Kd.R_reads' HO150.out).2.2 | (with_reducible refine Kd.C_alloc ?_ _) | (with_reducible refine Kd.C_drewN ?_ _) | (with_reducible refine Kd.C_drew ?_))); (case side4 => exact (Kd.R_reads' HO150.out).2.1); rintro e w87 ⟨v152, rfl, ho0, hb⟩; refine ⟨_, rfl, ?_⟩; have n_ := zA9 (Kd.R_elder' zz26 (Kd.R_base ho0) hb) (Kd.R_elder' zz25 (Kd.R_base ho0) hb) (Kd.R_below zz30 hb) (Kd.R_below (by (with_reducible repeat (first | apply Kd.R_alloc | apply Kd.R_drewN | apply Kd.R_drew)); exact HO147.out) hb) (Kd.R_elder' (by (with_reducible repeat (first | apply Kd.R_alloc | apply Kd.R_drewN | apply Kd.R_drew)); exact HO150.out) (Kd.R_base ho0) hb) (Kd.R_lower (Kd.R_new' (Kd.R_new' (Kd.R_new' ho0 (Kd.R_lt zz26)) (Kd.R_lt zz25)) (Kd.R_lt (by (with_reducible repeat (first | apply Kd.R_alloc | apply Kd.R_drewN | apply Kd.R_drew)); exact HO150.out))) (below_size zz10)) (blk_below (g := gb101) (o := .cells #[.int .i64 a0_0, .slice A0_1 l0_1.length c0_1] 24 (0, 0)) zz1 hb) (blk_below (g := gb118) (o := .cells #[.int .i64 t114, .slice Ao32 t137.length co32] 31 (0, 0)) zz23 hb) (below_step zz10 hb); clear HO_8 HO_12 HO_119001 HO147 HO150 BK101 BK118 HB; obtain ⟨HO_8, HO_12, HO_119001, HO147, HO150, HO153, BK101, BK118, HB⟩ := n_; clear ho0 hb))); (try simp only [Act.put, List.setIfInBounds_toArray, List.set_cons_zero, List.set_cons_succ]); go_cut [113] (fun v113 wc => ∃ (kq : Nat) (x113_77 : Bool), v113 = .bool x113_77 ∧ Aside0 (laws_FnExactParkingOfTree.j2 kq t142 t141 x113_77 = some r) ∧ Aside0 (kq ≤ kj51) ∧ Aside0 (Kd.R (Kd.int .i64) 3 wc w.heap.size (fun _ => True) (.slice Ao79 t122.length co79) t142) ∧ Aside0 (Kd.R k74 74 wc w.heap.size (fun _ => True) (.slice Ao32 t137.length co32) t137) ∧ Aside0 (wc.heap[gb101]? = some (.cells #[.int .i64 a0_0, (.slice A0_1 l0_1.length c0_1)] 24 (0, 0))) ∧ Aside0 (wc.heap[gb118]? = some (.cells #[.int .i64 t114, (.slice Ao32 t137.length co32)] 31 (0, 0))) ∧ Aside0 (Below w.heap.size w wc))
     case first =>
      have H := HC78.out; clear HC78; replace H := Option.bind_eq_some_iff.mp H; obtain ⟨t155, A880, H⟩ := H; (try dsimp only at H); have A88 := Aside0.mk A880; clear A880; by_cases c89 : t155 = true
      ·subst c89; rw [if_pos rfl] at H; have H' := Aside0.mk H; clear H; obtain ⟨Ao90, co90, eo90⟩ := Kd.R_slice HO153.out; subst eo90; obtain ⟨Ao91, co91, eo91⟩ := Kd.R_slice HO_8.out; subst eo91; (go_wp2_with (first | ((with_reducible refine gate_callee (f := 12) rfl ?_); refine goesL_ (some 107) rfl rfl Try.func12 (by kernel_rfl) rfl #[.slice Ao90 t151.length co90, .slice Ao91 t110.length co91] rfl zz3 ?_; (with_reducible refine (laws_eqIntS.calls kj51 _ _ t151 _ _ t110 true _ ?side1 ?side2 ?side3 ?side4 A88.out).mono ?_); (case side1 => repeat (first | exact (Kd.R_reads' HO153.out).2.2 | (with_reducible refine Kd.C_alloc ?_ _) | (with_reducible refine Kd.C_drewN ?_ _) | (with_reducible refine Kd.C_drew ?_))); (case side2 => exact (Kd.R_reads' HO153.out).2.1); (case side3 => exact zz36); (case side4 => exact (Kd.R_reads' HO_8.out).2.1); rintro e w' ⟨rfl, ⟨nd, rfl⟩⟩; refine ⟨_, rfl, ?_⟩))); (go_meet); case rel => exact ⟨_, ((t154 != t113)), zz7, H', ⟨by have := HJ16.out; have := HJ51.out; first | omega | exact Nat.le_refl _⟩, ⟨by (try simp only [hl119001_51]); (with_reducible repeat (first | apply Kd.R_alloc | apply Kd.R_drewN | apply Kd.R_drew)); exact Kd.R_mono HO_12.out (fun _ hk => trivial)⟩, ⟨by (try simp only [hl119001_51]); (with_reducible repeat (first | apply Kd.R_alloc | apply Kd.R_drewN | apply Kd.R_drew)); exact Kd.R_mono HO_119001.out (fun _ hk => trivial)⟩, ⟨by (try simp only [hl119001_51]); (with_reducible repeat (first | refine blk_drewN ?_ _ | refine blk_drew ?_ | refine blk_alloc ?_ _)); exact BK101.out⟩, ⟨by (try simp only [hl119001_51]); (with_reducible repeat (first | refine blk_drewN ?_ _ | refine blk_drew ?_ | refine blk_alloc ?_ _)); exact BK118.out⟩, ⟨zz10⟩⟩
      replace c89 := Bool.eq_false_iff.mpr c89; subst c89; rw [if_neg (show ¬ (false = true) by decide)] at H; have H' := Aside0.mk H; clear H; obtain ⟨Ao92, co92, eo92⟩ := Kd.R_slice HO153.out; subst eo92; obtain ⟨Ao93, co93, eo93⟩ := Kd.R_slice HO_8.out; subst eo93; (go_wp2_with (first | ((with_reducible refine gate_callee (f := 12) rfl ?_); refine goesL_ (some 107) rfl rfl Try.func12 (by kernel_rfl) rfl #[.slice Ao92 t151.length co92, .slice Ao93 t110.length co93] rfl zz3 ?_; (with_reducible refine (laws_eqIntS.calls kj51 _ _ t151 _ _ t110 false _ ?side1 ?side2 ?side3 ?side4 A88.out).mono ?_); (case side1 => repeat (first | exact (Kd.R_reads' HO153.out).2.2 | (with_reducible refine Kd.C_alloc ?_ _) | (with_reducible refine Kd.C_drewN ?_ _) | (with_reducible refine Kd.C_drew ?_))); (case side2 => exact (Kd.R_reads' HO153.out).2.1); (case side3 => exact zz36); (case side4 => exact (Kd.R_reads' HO_8.out).2.1); rintro e w' ⟨rfl, ⟨nd, rfl⟩⟩; refine ⟨_, rfl, ?_⟩))); (go_meet); case rel => exact ⟨_, (true), zz7, H', ⟨by have := HJ16.out; have := HJ51.out; first | omega | exact Nat.le_refl _⟩, ⟨by (try simp only [hl119001_51]); (with_reducible repeat (first | apply Kd.R_alloc | apply Kd.R_drewN | apply Kd.R_drew)); exact Kd.R_mono HO_12.out (fun _ hk => trivial)⟩, ⟨by (try simp only [hl119001_51]); (with_reducible repeat (first | apply Kd.R_alloc | apply Kd.R_drewN | apply Kd.R_drew)); exact Kd.R_mono HO_119001.out (fun _ hk => trivial)⟩, ⟨by (try simp only [hl119001_51]); (with_reducible repeat (first | refine blk_drewN ?_ _ | refine blk_drew ?_ | refine blk_alloc ?_ _)); exact BK101.out⟩, ⟨by (try simp only [hl119001_51]); (with_reducible repeat (first | refine blk_drewN ?_ _ | refine blk_drew ?_ | refine blk_alloc ?_ _)); exact BK118.out⟩, ⟨zz10⟩⟩
     case rest =>
      clear HC78; (try clear c1); (try clear p2); (try clear c3); (try clear c4); (try clear c4b0); (try clear c4b1); (try clear c5); (try clear c6); (try clear c7); (try clear c7b0); (try clear c8); (try clear c9); (try clear c10); (try clear c11); (try clear c12); (try clear c13); (try clear c14); (try clear c15); (try clear c16); (try clear c30); (try clear c38); (try clear c43); (try clear c46); (try clear c49); (try clear c59); (try clear c63); (try clear c63b0); (try clear c65); (try clear c70); (try clear c73); (try clear c73b0); (try clear c74); (try clear c74b0); (try clear c74b1); (try clear c81); (try clear c89); (try clear hcz19_0); (try clear hcz19_1); (try clear hcz21_0); (try clear hcz21_1); (try clear hcz27_0); (try clear hcz27_1); (try clear hcz31_0); (try clear hcz31_1); (try clear hcz34_0); (try clear hcz34_1); (try clear hcz60_0); (try clear hcz60_1); (try clear hcz82_0); (try clear hcz82_1); (try clear hcz9_0); (try clear hcz9_1); (try clear hfz19_0); (try clear hfz19_1); (try clear hfz21_0); (try clear hfz21_1); (try clear hfz27_0); (try clear hfz27_1); (try clear hfz31_0); (try clear hfz31_1); (try clear hfz34_0); (try clear hfz34_1); (try clear hfz60_0); (try clear hfz60_1); (try clear hfz82_0); (try clear hfz82_1); (try clear hfz9_0); (try clear hfz9_1); (try clear p2); obtain ⟨kq, x113_77, rfl, HA, HJ77, HO_12, HO_119001, BK101, BK118, HB⟩ := hcut; have hl12_77 := (Kd.R_reads' HO_12.out).1; rw [hl12_77] at HO_12; (try simp only [hl12_77]); (try simp only [hl12_77] at BK101); (try simp only [hl12_77] at BK118); (try simp only [hl12_77] at HO_119001)
      cases kq with
      | zero => exact absurd HA.out (by simp [laws_FnExactParkingOfTree.j2])
      | succ kj77 =>
       have H := HA.out; clear HA; simp only [laws_FnExactParkingOfTree.j2] at H; by_cases c94 : x113_77 = true
       ·subst c94; rw [if_pos rfl] at H; exact absurd H (by simp)
       replace c94 := Bool.eq_false_iff.mpr c94; subst c94; rw [if_neg (show ¬ (false = true) by decide)] at H; replace H := Option.bind_eq_some_iff.mp H; obtain ⟨t156, A950, H⟩ := H; (try dsimp only at H); have A95 := Aside0.mk A950; clear A950; by_cases c96 : t156 < 0
       ·rw [if_pos c96] at H; exact absurd H (by simp)
       rw [if_neg c96] at H; have c96b0 := decide_eq_false c96; clear c96; by_cases c97 : t156 = t141; rotate_left
       ·rw [if_neg c97] at H; exact absurd H (by simp)
       rw [if_pos c97] at H; have c97b0 : (t156 == t141) = true := beq_iff_eq.mpr c97; have c97b1 : (t156 != t141) = false := bne_eq_false_iff_eq.mpr c97; clear c97; obtain rfl := Option.some.inj H; (go_wp2_with (first | ((with_reducible refine gate_callee (f := 16) rfl ?_); refine goesL_ (some 116) rfl rfl Try.func16 (by kernel_rfl) rfl #[.slice Ao79 t142.length co79, .int .i64 1] rfl zz3 ?_; (with_reducible refine (laws_heldIntS.calls kj77 _ _ t142 1 t156 _ ?side1 ?side2 A95.out).mono ?_); (case side1 => exact zz35); (case side2 => exact (Kd.R_reads' HO_12.out).2.1); rintro e w' ⟨rfl, ⟨nd, rfl⟩⟩; refine ⟨_, rfl, ?_⟩))); go_ret; exact ⟨zz6, zz10⟩
end Go.Proofs.Yteokcodadpjepaa.P
end

section
namespace Go.Proofs.Yteokcodadpjepaa.P
open Go.RowKit Go.Proofs.YteokcodadpjepaaW.PrintWords Go.Proofs.YteokcodadpjepaaW.PrintLast Go.Proofs.YteokcodadpjepaaW.PrintMore
attribute [local go_sem] max2_int min2_int max_two min_two max_three min_three max_four min_four
set_option linter.unusedVariables false
set_option linter.unusedSimpArgs false
def impl_isVertex.f (a0_0 : Int) (l0_1 : List (S74)) (a1 : Int) : Option (Bool) := (impl_GraphOk.f a0_0 l0_1).bind fun t102 => (if t102 = true then ((impl_within.f a1 0 (wrap64 (a0_0 - 1))).bind fun t103 => (some t103)) else (some false))
end Go.Proofs.Yteokcodadpjepaa.P
end

section
namespace Go.Proofs.Yteokcodadpjepaa.Cf
set_option linter.unusedVariables false
set_option linter.unusedSimpArgs false
open Go.RowKit Go.Proofs.YteokcodadpjepaaW.PrintWords Go.Proofs.Yteokcodadpjepaa.P
theorem forall_drop' {α : Type} {l : List α} {P : α → Prop} {i : Nat} (h : i < l.length) : (∀ e ∈ l.drop i, P e) ↔ (P l[i] ∧ ∀ e ∈ l.drop (i + 1), P e) := by
  rw [List.drop_eq_getElem_cons h]
  simp only [List.mem_cons, forall_eq_or_imp]
theorem implGraph (n : Int) (es : List E) : impl_GraphOk.f n es = some (gOk n es) := rfl
theorem gOk_true {n : Int} {es : List E} (h : gOk n es = true) : GOk n es := gOk_iff.1 h
theorem gOk_false {n : Int} {es : List E} (h : ¬ gOk n es = true) : ¬ GOk n es := fun x => h (gOk_iff.2 x)
theorem allWithin_l0 (a b : Int) (l : List Int) (hl : l.length ≤ 1048576) : ∀ (d i : Nat), i + d = l.length → Ep (fun k => impl_allWithin.l0 k a b l (l.length : Int) (i : Int)) (· = decide (∀ x ∈ l.drop i, a ≤ x ∧ x ≤ b)) := by
  intro d
  induction d with
  | zero =>
    intro i hi
    refine Ep.up ?_
    simp only [impl_allWithin.l0]
    refine Ep.neg (by omega) (Ep.now ?_)
    rw [List.drop_of_length_le (by omega)]
    simp
  | succ d ih =>
    intro i hi
    have hlt : i < l.length := by omega
    refine Ep.up ?_
    simp only [impl_allWithin.l0]
    refine Ep.pos (by omega) (Ep.pos (by omega) (Ep.pos (by omega) ?_))
    rw [rd_get hlt, wrap_succ (by omega)]
    refine Ep.bind0 (within_eq _ _ _) ?_
    refine Ep.ite (fun h => ?_) (fun h => Ep.now ?_)
    · have h' : a ≤ l[i] ∧ l[i] ≤ b := by simpa using h
      refine (ih (i + 1) (by omega)).mono ?_
      rintro _ rfl
      simp only [forall_drop' hlt, h', true_and]
    · have h' : ¬ (a ≤ l[i] ∧ l[i] ≤ b) := by simpa using h
      simp only [forall_drop' hlt, h', false_and, decide_false]
theorem allWithin_ok (l : List Int) (a b : Int) (hl : l.length ≤ 1048576) : Ep (fun k => impl_allWithin.f k l a b) (· = decide (∀ x ∈ l, a ≤ x ∧ x ≤ b)) := by
  have := allWithin_l0 a b l hl l.length 0 (by omega)
  simp only [impl_allWithin.f]
  rw [List.drop_zero] at this
  exact this
/-- The edge with this index is at v. -/
def At (es : List E) (k v : Int) : Prop := ∃ j : Nat, k = j ∧ ∃ h : j < es.length, es[j].f0 = v ∨ es[j].f1 = v
theorem At.of {es : List E} {j : Nat} {v : Int} (hj : j < es.length) : At es (j : Int) v ↔ (es[j].f0 = v ∨ es[j].f1 = v) := by
  constructor
  · rintro ⟨i, hi, h, hx⟩
    have : i = j := by omega
    subst this
    exact hx
  · intro h
    exact ⟨j, rfl, hj, h⟩
/-- The edges with these indices. -/
def edgesAt (es : List E) (l : List Int) : List E := l.map (fun k => es.getD k.toNat ⟨0, 0⟩)
def InR (es : List E) (l : List Int) (i : Nat) : Prop := ∀ j, (h : j < l.length) → j < i → 0 ≤ l[j] ∧ l[j] < es.length
def Up (l : List Int) (i : Nat) : Prop := ∀ j, (h : j + 1 < l.length) → j + 1 < i → l[j] < l[j + 1]
theorem edgesAt_take {es : List E} {l : List Int} {i : Nat} (hi : i < l.length) {m : Nat} (hm : l[i] = m) (hl : m < es.length) : edgesAt es (l.take (i + 1)) = edgesAt es (l.take i) ++ [es[m]] := by
  unfold edgesAt
  rw [List.take_add_one, List.getElem?_eq_getElem hi, List.map_append]
  congr 1
  simp [hm, List.getD, hl]
theorem edgesAt_ok {n : Int} {es : List E} {l : List Int} (hes : ∀ e ∈ es, EOk n e) (hr : InR es l l.length) : ∀ e ∈ edgesAt es l, EOk n e := by
  intro e he
  obtain ⟨x, hx, rfl⟩ := List.mem_map.1 he
  obtain ⟨j, hj, rfl⟩ := List.mem_iff_getElem.1 hx
  have := hr j hj hj
  obtain ⟨m, hm⟩ := Int.eq_ofNat_of_zero_le this.1
  rw [hm]
  have hml : m < es.length := by omega
  simp only [Int.ofNat_eq_natCast, Int.toNat_natCast, List.getD, List.getElem?_eq_getElem hml, Option.getD_some]
  exact hes _ (List.getElem_mem hml)
theorem edgesOf_l0 (n : Int) (es : List E) (l : List Int) (hl : l.length ≤ 1048576) (hr : InR es l l.length) : ∀ (d i : Nat), i + d = l.length → Ep (fun k => impl_edgesOf.l0 k (edgesAt es (l.take i)) l (l.length : Int) (i : Int) n es) (· = edgesAt es l) := by
  intro d
  induction d with
  | zero =>
    intro i hi
    refine Ep.up ?_
    simp only [impl_edgesOf.l0]
    refine Ep.neg (by omega) (Ep.now ?_)
    rw [List.take_of_length_le (by omega)]
  | succ d ih =>
    intro i hi
    have hlt : i < l.length := by omega
    have hx := hr i hlt hlt
    obtain ⟨m, hm⟩ := Int.eq_ofNat_of_zero_le hx.1
    have hml : m < es.length := by omega
    refine Ep.up ?_
    simp only [impl_edgesOf.l0]
    rw [rd_get hlt, hm]
    refine Ep.pos (by omega) (Ep.pos (by omega) (Ep.pos (by omega) (Ep.pos (by omega) (Ep.pos (by omega) (Ep.pos ?_ ?_)))))
    · simp [edgesAt]; omega
    · have := ih (i + 1) (by omega)
      rw [edgesAt_take hlt hm hml] at this
      rw [wrap_id (by omega) (by omega)]
      have e : rd_T74 es ((m : Nat) : Int) = es[m] := rdE_get hml
      rw [e]
      exact this
theorem edgesOf_ok (n : Int) (es : List E) (l : List Int) (hl : l.length ≤ 1048576) (hr : InR es l l.length) : Ep (fun k => impl_edgesOf.f k n es l) (· = edgesAt es l) := by
  simp only [impl_edgesOf.f]
  exact edgesOf_l0 n es l hl hr l.length 0 (by omega)
theorem specJoins_l0 (n : Nat) (hn : 1 ≤ n ∧ n ≤ 6) (es : List E) (l : List Int) (hl : l.length ≤ 12) (hes : ∀ e ∈ es, EOk n e) (hr : InR es l l.length) : ∀ (d i : Nat), i + d = l.length → Ep (fun k => spec_l12Joins.l0 k l (l.length : Int) (i : Int) (n : Int) es (n : Int) (edgesAt es (l.take i))) (· = joinedB n (edgesAt es l)) := by
  intro d
  induction d with
  | zero =>
    intro i hi
    refine Ep.up ?_
    simp only [spec_l12Joins.l0]
    refine Ep.neg (by omega) ?_
    rw [List.take_of_length_le (by omega)]
    refine Ep.bind (specReach n hn (edgesAt es l) (by simp [edgesAt]; omega) (edgesAt_ok hes hr)) ?_
    intro r hr
    refine Ep.now ?_
    rw [Bool.eq_iff_iff, joinedB_iff, ← hr.1]
    simp only [beq_iff_eq]
    omega
  | succ d ih =>
    intro i hi
    have hlt : i < l.length := by omega
    have hx := hr i hlt hlt
    obtain ⟨m, hm⟩ := Int.eq_ofNat_of_zero_le hx.1
    have hml : m < es.length := by omega
    refine Ep.up ?_
    simp only [spec_l12Joins.l0]
    rw [rd_get hlt, hm]
    refine Ep.pos (by omega) (Ep.pos (by omega) (Ep.pos (by omega) (Ep.pos (by omega) (Ep.pos (by omega) (Ep.pos ?_ ?_)))))
    · simp [edgesAt]; omega
    · have := ih (i + 1) (by omega)
      rw [edgesAt_take hlt hm hml] at this
      rw [wrap_id (by omega) (by omega)]
      have e : rd_T74 es ((m : Nat) : Int) = es[m] := rdE_get hml
      rw [e]
      exact this
theorem specJoins (n : Nat) (hn : 1 ≤ n ∧ n ≤ 6) (es : List E) (l : List Int) (hl : l.length ≤ 12) (hes : ∀ e ∈ es, EOk n e) (hr : InR es l l.length) : Ep (fun k => spec_l12Joins.f k (n : Int) es l) (· = joinedB n (edgesAt es l)) := by
  simp only [spec_l12Joins.f]
  exact specJoins_l0 n hn es l hl hes hr l.length 0 (by omega)
/-- A spanning tree, by its edges' indices. -/
def TreeOk (n : Int) (es : List E) (l : List Int) : Prop := GOk n es ∧ (l.length : Int) = n - 1 ∧ InR es l l.length ∧ Up l l.length ∧ Joined n (edgesAt es l)
open Classical in
noncomputable def treeB (n : Int) (es : List E) (l : List Int) : Bool := decide (TreeOk n es l)
theorem treeB_iff {n : Int} {es : List E} {l : List Int} : treeB n es l = true ↔ TreeOk n es l := by unfold treeB; simp
theorem treeB_false {n : Int} {es : List E} {l : List Int} (h : ¬ TreeOk n es l) : false = treeB n es l := by
  cases hb : treeB n es l with
  | false => rfl
  | true => exact absurd (treeB_iff.1 hb) h
theorem treeB_joined {n : Int} {es : List E} {l : List Int} (hg : GOk n es) (hl : (l.length : Int) = n - 1) (hr : InR es l l.length) (hu : Up l l.length) : joinedB n (edgesAt es l) = treeB n es l := by
  rw [Bool.eq_iff_iff, joinedB_iff, treeB_iff]
  exact ⟨fun h => ⟨hg, hl, hr, hu, h⟩, fun h => h.2.2.2.2⟩
theorem InR.next {es : List E} {l : List Int} {i : Nat} (h : InR es l i) (hi : i < l.length) (hx : 0 ≤ l[i] ∧ l[i] < es.length) : InR es l (i + 1) := by
  intro j hj hji
  by_cases e : j = i
  · subst e; exact hx
  · exact h j hj (by omega)
theorem Up.next {l : List Int} {i : Nat} (h : Up l (i + 1)) (hi : i + 1 < l.length) (hx : l[i] < l[i + 1]) : Up l (i + 2) := by
  intro j hj hji
  by_cases e : j = i
  · subst e; exact hx
  · exact h j hj (by omega)
theorem specTree_l0 (n : Nat) (es : List E) (l : List Int) (hg : GOk n es) (hn : (l.length : Int) = (n : Int) - 1) : ∀ (d i : Nat), i + d = l.length → InR es l i → Up l i → Ep (fun k => spec_IsTree.l0 k l l (l.length : Int) (i : Int) (n : Int) es) (· = treeB n es l) := by
  have hg1 := hg.1
  unfold EsOk at hg1
  intro d
  induction d with
  | zero =>
    intro i hi hr hu
    obtain rfl : i = l.length := by omega
    refine Ep.up ?_
    simp only [spec_IsTree.l0]
    refine Ep.neg (by omega) ?_
    refine Ep.bind (specJoins n (by omega) es l (by omega) hg1.2.2.2 hr) ?_
    rintro _ rfl
    exact Ep.now (treeB_joined hg hn hr hu)
  | succ d ih =>
    intro i hi hr hu
    have hlt : i < l.length := by omega
    refine Ep.up ?_
    simp only [spec_IsTree.l0]
    rw [rd_get hlt]
    refine Ep.pos (by omega) (Ep.pos (by omega) (Ep.pos (by omega) ?_))
    rw [wrap_id (x := (es.length : Int) - 1) (by omega) (by omega)]
    refine Ep.bind0 (l01In_eq _ _ _) ?_
    refine Ep.ite (fun h => ?_) (fun h => Ep.now (treeB_false (fun x => h (by have := x.2.2.1 i hlt hlt; simp; omega))))
    have h' : 0 ≤ l[i] ∧ l[i] ≤ (es.length : Int) - 1 := by simpa using h
    have hr' := hr.next hlt ⟨h'.1, by omega⟩
    rw [wrap_id (x := (i : Int) + 1) (by omega) (by omega), show (i : Int) + 1 = ((i + 1 : Nat) : Int) by omega]
    refine Ep.ite (fun h0 => ?_) (fun h0 => ih (i + 1) (by omega) hr' (fun j hj hji => by omega))
    obtain ⟨j, rfl⟩ : ∃ j, i = j + 1 := ⟨i - 1, by omega⟩
    rw [wrap_id (x := ((j + 1 : Nat) : Int) - 1) (by omega) (by omega), show ((j + 1 : Nat) : Int) - 1 = (j : Int) by omega, rd_get (show j < l.length by omega)]
    refine Ep.pos (by omega) (Ep.pos (by omega) (Ep.ite (fun h1 => Ep.now (treeB_false (fun x => ?_))) (fun h1 => ?_)))
    · have := x.2.2.2.1 j hlt hlt
      omega
    · exact ih (j + 1 + 1) (by omega) hr' (hu.next hlt (by omega))
theorem specTree (n : Int) (es : List E) (l : List Int) (hl : l.length ≤ 1048576) : Ep (fun k => spec_IsTree.f k n es l) (· = treeB n es l) := by
  have no : ¬ TreeOk n es l → Ep (fun k => spec_IsTree.j0 k l true n es) (· = treeB n es l) := by
    intro h
    refine Ep.up ?_
    simp only [spec_IsTree.j0]
    exact Ep.pos trivial (Ep.now (treeB_false h))
  simp only [spec_IsTree.f]
  refine Ep.bind (specGraph n es) ?_
  rintro _ rfl
  refine Ep.ite (fun hg => ?_) (fun hg => no (fun x => gOk_false hg x.1))
  have hG := gOk_true hg
  have hG1 := hG.1
  unfold EsOk at hG1
  rw [wrap_id (x := n - 1) (by omega) (by omega)]
  obtain ⟨m, rfl⟩ := Int.eq_ofNat_of_zero_le (a := n) (by omega)
  by_cases hn : (l.length : Int) = (m : Int) - 1
  · refine Ep.up ?_
    simp only [spec_IsTree.j0]
    refine Ep.neg (by simp [hn]) ?_
    exact specTree_l0 m es l hG hn l.length 0 (by omega) (fun j hj hji => by omega) (fun j hj hji => by omega)
  · have e : ((l.length : Int) != (m : Int) - 1) = true := by simpa using hn
    have := no (fun x => hn x.2.1)
    simp only [Int.ofNat_eq_natCast, e]
    exact this
theorem implTree_l0 (n : Nat) (es : List E) (l : List Int) (hg : GOk n es) (hn : (l.length : Int) = (n : Int) - 1) (hr : InR es l l.length) : ∀ (d i : Nat), l.length ≤ i + 1 + d → i ≤ l.length → Up l (i + 1) → Ep (fun k => impl_IsTree.l0 k l ((i + 1 : Nat) : Int) (n : Int) es) (· = treeB n es l) := by
  have hg1 := hg.1
  unfold EsOk at hg1
  intro d
  induction d with
  | zero =>
    intro i hi hi2 hu
    refine Ep.up ?_
    simp only [impl_IsTree.l0]
    refine Ep.neg (by omega) ?_
    refine Ep.bind (edgesOf_ok (n : Int) es l (by omega) hr) ?_
    rintro _ rfl
    refine Ep.bind (implConn n (by omega) (edgesAt es l) (by simp [edgesAt]; omega) (edgesAt_ok hg1.2.2.2 hr)) ?_
    rintro _ rfl
    exact Ep.now (treeB_joined hg hn hr (fun j hj hji => hu j hj (by omega)))
  | succ d ih =>
    intro i hi hi2 hu
    by_cases hlt : i + 1 < l.length
    · refine Ep.up ?_
      simp only [impl_IsTree.l0]
      rw [wrap_id (x := ((i + 1 : Nat) : Int) - 1) (by omega) (by omega), show ((i + 1 : Nat) : Int) - 1 = (i : Int) by omega, rd_get (show i < l.length by omega), rd_get hlt]
      refine Ep.pos (by omega) (Ep.pos (by omega) (Ep.pos (by omega) (Ep.pos (by omega) (Ep.ite (fun h1 => Ep.now (treeB_false (fun x => ?_))) (fun h1 => ?_)))))
      · have := x.2.2.2.1 i hlt hlt
        omega
      · rw [wrap_id (by omega) (by omega), show ((i + 1 : Nat) : Int) + 1 = ((i + 1 + 1 : Nat) : Int) by omega]
        exact ih (i + 1) (by omega) (by omega) (hu.next hlt (by omega))
    · refine Ep.up ?_
      simp only [impl_IsTree.l0]
      refine Ep.neg (by omega) ?_
      refine Ep.bind (edgesOf_ok (n : Int) es l (by omega) hr) ?_
      rintro _ rfl
      refine Ep.bind (implConn n (by omega) (edgesAt es l) (by simp [edgesAt]; omega) (edgesAt_ok hg1.2.2.2 hr)) ?_
      rintro _ rfl
      exact Ep.now (treeB_joined hg hn hr (fun j hj hji => hu j hj (by omega)))
theorem implTree (n : Int) (es : List E) (l : List Int) (hl : l.length ≤ 1048576) : Ep (fun k => impl_IsTree.f k n es l) (· = treeB n es l) := by
  have no : ¬ TreeOk n es l → Ep (fun k => impl_IsTree.j0 k l true n es) (· = treeB n es l) := by
    intro h
    refine Ep.up ?_
    simp only [impl_IsTree.j0]
    exact Ep.pos trivial (Ep.now (treeB_false h))
  simp only [impl_IsTree.f]
  refine Ep.bind0 (implGraph n es) ?_
  refine Ep.ite (fun hg => ?_) (fun hg => no (fun x => gOk_false hg x.1))
  have hG := gOk_true hg
  have hG1 := hG.1
  unfold EsOk at hG1
  rw [wrap_id (x := n - 1) (by omega) (by omega), wrap_id (x := (es.length : Int) - 1) (by omega) (by omega)]
  obtain ⟨m, rfl⟩ := Int.eq_ofNat_of_zero_le (a := n) (by omega)
  refine Ep.ite (fun hn => ?_) (fun hn => no (fun x => hn x.2.1))
  refine Ep.bind (allWithin_ok l _ _ hl) ?_
  rintro _ rfl
  by_cases ha : ∀ x ∈ l, 0 ≤ x ∧ x ≤ (es.length : Int) - 1
  · have hr : InR es l l.length := fun j hj _ => by
      have := ha l[j] (List.getElem_mem hj)
      omega
    refine Ep.up ?_
    simp only [impl_IsTree.j0]
    refine Ep.neg (by simpa using ha) ?_
    exact implTree_l0 m es l hG hn hr l.length 0 (by omega) (by omega) (fun j hj hji => by omega)
  · have e : (!decide (∀ x ∈ l, 0 ≤ x ∧ x ≤ (es.length : Int) - 1)) = true := by simpa using ha
    rw [e]
    exact no (fun x => ha (fun y hy => by
      obtain ⟨j, hj, rfl⟩ := List.mem_iff_getElem.1 hy
      have := x.2.2.1 j hj hj
      omega))
end Go.Proofs.Yteokcodadpjepaa.Cf
end

section
namespace Go.Proofs.Yteokcodadpjepaa.Cf
set_option linter.unusedVariables false
set_option linter.unusedSimpArgs false
def sumE (es : List E) (f : E → Int) : Int := (es.map f).sum
theorem sumE_cons (e : E) (r : List E) (f : E → Int) : sumE (e :: r) f = f e + sumE r f := by simp [sumE]
theorem sumE_zero {es : List E} {f : E → Int} (h : ∀ e ∈ es, f e = 0) : sumE es f = 0 := by
  induction es with
  | nil => rfl
  | cons e r ih => rw [sumE_cons, ih (fun x hx => h x (List.mem_cons_of_mem _ hx)), h e List.mem_cons_self]; rfl
/-- What an edge takes from w when the script s is fired. -/
def lapE (s : Int → Int) (w : Int) (e : E) : Int := (if e.f0 = w then s e.f0 - s e.f1 else 0) + (if e.f1 = w then s e.f1 - s e.f0 else 0)
/-- What w loses when the script s is fired. -/
def lap (es : List E) (s : Int → Int) (w : Int) : Int := sumE es (lapE s w)
def one (v : Int) (t : Int) (w : Int) : Int := if w = v then t else 0
theorem lap_const {es : List E} {s : Int → Int} {c : Int} (h : ∀ e ∈ es, s e.f0 = c ∧ s e.f1 = c) (w : Int) : lap es s w = 0 := by
  apply sumE_zero
  intro e he
  unfold lapE
  rw [(h e he).1, (h e he).2]
  split <;> split <;> omega
def below (n : Nat) (s : Int → Int) (t : Int) : Nat := (List.range n).countP (fun i => decide (s (i : Nat) < t))
end Go.Proofs.Yteokcodadpjepaa.Cf
end

section
namespace Go.Proofs.Yteokcodadpjepaa.P
open Go.RowKit Go.Proofs.YteokcodadpjepaaW.PrintWords Go.Proofs.YteokcodadpjepaaW.PrintLast Go.Proofs.YteokcodadpjepaaW.PrintMore
attribute [local go_sem] max2_int min2_int max_two min_two max_three min_three max_four min_four
set_option linter.unusedVariables false
set_option linter.unusedSimpArgs false
mutual
def spec_DivisorOk.j0 : Nat → List Int → Bool → Option (Bool)
 | 0, _, _ => none
 | k + 1, x1, x16 => if x16 = true then (some false) else (spec_DivisorOk.l0 k x1 (x1.length : Int) 0)
def spec_DivisorOk.l0 : Nat → List Int → Int → Int → Option (Bool)
 | 0, _, _, _ => none
 | k + 1, x17, x18, x19 => if x19 < x18 then (if 0 ≤ x19 then (if x19 < (x17.length : Int) then ((spec_l01In.f (rd x17 x19) (-60) 60).bind fun t104 => (if t104 = true then (spec_DivisorOk.l0 k x17 x18 (wrap64 (x19 + 1))) else (some false))) else (none)) else (none)) else (some true)
end
def spec_DivisorOk.f (k : Nat) (a0_0 : Int) (l0_1 : List (S74)) (l1 : List Int) : Option (Bool) := (spec_GraphOk.f k a0_0 l0_1).bind fun t102 => (if t102 = true then (spec_DivisorOk.j0 k l1 ((l1.length : Int) != a0_0)) else (spec_DivisorOk.j0 k l1 true))
theorem spec_DivisorOk.mono_l : ∀ k, (∀ y0 y1, LeO (spec_DivisorOk.j0 k y0 y1) (spec_DivisorOk.j0 (k + 1) y0 y1)) ∧ (∀ y0 y1 y2, LeO (spec_DivisorOk.l0 k y0 y1 y2) (spec_DivisorOk.l0 (k + 1) y0 y1 y2))
 | 0 => ⟨fun _ _ r h => by simp [spec_DivisorOk.j0] at h, fun _ _ _ r h => by simp [spec_DivisorOk.l0] at h⟩
 | k + 1 => by
  obtain ⟨ih0, ih1⟩ := spec_DivisorOk.mono_l k
  refine ⟨?_, ?_⟩
  ·intro y0 y1
   unfold spec_DivisorOk.j0
   exact zm8
  ·intro y0 y1 y2
   unfold spec_DivisorOk.l0
   exact zm8
theorem spec_DivisorOk.mono : ∀ a0 a1 a2 k, LeO (spec_DivisorOk.f k a0 a1 a2) (spec_DivisorOk.f (k + 1) a0 a1 a2) := by
 intro a0 a1 a2 k; obtain ⟨ih0, ih1⟩ := spec_DivisorOk.mono_l k; unfold spec_DivisorOk.f; exact zm8
end Go.Proofs.Yteokcodadpjepaa.P
end

section
namespace Go.Proofs.Yteokcodadpjepaa.P
open Go.RowKit Go.Proofs.YteokcodadpjepaaW.PrintWords Go.Proofs.YteokcodadpjepaaW.PrintLast Go.Proofs.YteokcodadpjepaaW.PrintMore
attribute [local go_sem] max2_int min2_int max_two min_two max_three min_three max_four min_four
set_option linter.unusedVariables false
set_option linter.unusedSimpArgs false
def impl_DivisorOk.f (k : Nat) (a0_0 : Int) (l0_1 : List (S74)) (l1 : List Int) : Option (Bool) := (impl_GraphOk.f a0_0 l0_1).bind fun t102 => (if t102 = true then (if (l1.length : Int) = a0_0 then ((impl_allWithin.f k l1 (-60) 60).bind fun t103 => (some t103)) else (some false)) else (some false))
theorem impl_DivisorOk.mono : ∀ a0 a1 a2 k, LeO (impl_DivisorOk.f k a0 a1 a2) (impl_DivisorOk.f (k + 1) a0 a1 a2) := by
 intro a0 a1 a2 k; unfold impl_DivisorOk.f; repeat' first | (with_reducible apply impl_allWithin.mono) | (with_reducible exact LeO.refl _) | (with_reducible exact LeO.none _) | (with_reducible refine LeO.ite ?_ ?_) | (with_reducible refine LeO.bind ?_ (fun _ => ?_)) | apply impl_allWithin.mono | exact LeO.none _ | refine LeO.ite ?_ ?_ | refine LeO.bind ?_ (fun _ => ?_)
def spec_l02Vert.f (a0_0 : Int) (l0_1 : List (S74)) (a1 : Int) : Option (Bool) := if a1 ≥ 0 then (some (decide (a1 < a0_0))) else (some false)
def spec_Valence.l0 : Nat → Int → Int → List (S74) → Int → Int → Option (Int)
 | 0, _, _, _, _, _ => none
 | k + 1, x1, x5, x13, x14, x15 => if x15 < x14 then (if 0 ≤ x15 then (if x15 < (x13.length : Int) then (if ((rd_T74 x13 x15).f0) = x1 then (spec_Valence.l0 k x1 (wrap64 (x5 + 1)) x13 x14 (wrap64 (x15 + 1))) else (if ((rd_T74 x13 x15).f1) = x1 then (spec_Valence.l0 k x1 (wrap64 (x5 + 1)) x13 x14 (wrap64 (x15 + 1))) else (spec_Valence.l0 k x1 x5 x13 x14 (wrap64 (x15 + 1))))) else (none)) else (none)) else (some x5)
def spec_Valence.f (k : Nat) (a0_0 : Int) (l0_1 : List (S74)) (a1 : Int) : Option (Int) := (spec_l02Vert.f a0_0 l0_1 a1).bind fun t102 => (if t102 = true then (spec_Valence.l0 k a1 0 l0_1 (l0_1.length : Int) 0) else (some 0))
theorem spec_Valence.mono_l : ∀ k, (∀ y0 y1 y2 y3 y4, LeO (spec_Valence.l0 k y0 y1 y2 y3 y4) (spec_Valence.l0 (k + 1) y0 y1 y2 y3 y4))
 | 0 => fun _ _ _ _ _ r h => by simp [spec_Valence.l0] at h
 | k + 1 => by
  have ih0 := spec_Valence.mono_l k
  ·intro y0 y1 y2 y3 y4
   unfold spec_Valence.l0
   exact zm1
theorem spec_Valence.mono : ∀ a0 a1 a2 k, LeO (spec_Valence.f k a0 a1 a2) (spec_Valence.f (k + 1) a0 a1 a2) := by
 intro a0 a1 a2 k; have ih0 := spec_Valence.mono_l k; unfold spec_Valence.f; exact zm1
mutual
def impl_Valence.j0 : Nat → Int → Bool → Int → List (S74) → Option (Int)
 | 0, _, _, _, _ => none
 | k + 1, x1, x15, x102000, x102001 => if x15 = true then (some 0) else (impl_Valence.l0 k x1 0 x102001 (x102001.length : Int) 0)
def impl_Valence.l0 : Nat → Int → Int → List (S74) → Int → Int → Option (Int)
 | 0, _, _, _, _, _ => none
 | k + 1, x1, x5, x17, x18, x19 => if x19 < x18 then (if 0 ≤ x19 then (if x19 < (x17.length : Int) then (if ((rd_T74 x17 x19).f0) = x1 then (impl_Valence.l0 k x1 (wrap64 (x5 + 1)) x17 x18 (wrap64 (x19 + 1))) else (if ((rd_T74 x17 x19).f1) = x1 then (impl_Valence.l0 k x1 (wrap64 (x5 + 1)) x17 x18 (wrap64 (x19 + 1))) else (impl_Valence.l0 k x1 x5 x17 x18 (wrap64 (x19 + 1))))) else (none)) else (none)) else (some x5)
end
def impl_Valence.f (k : Nat) (a0_0 : Int) (l0_1 : List (S74)) (a1 : Int) : Option (Int) := if a1 < 0 then (impl_Valence.j0 k a1 true a0_0 l0_1) else (impl_Valence.j0 k a1 (decide (a1 ≥ a0_0)) a0_0 l0_1)
theorem impl_Valence.mono_l : ∀ k, (∀ y0 y1 y2 y3, LeO (impl_Valence.j0 k y0 y1 y2 y3) (impl_Valence.j0 (k + 1) y0 y1 y2 y3)) ∧ (∀ y0 y1 y2 y3 y4, LeO (impl_Valence.l0 k y0 y1 y2 y3 y4) (impl_Valence.l0 (k + 1) y0 y1 y2 y3 y4))
 | 0 => ⟨fun _ _ _ _ r h => by simp [impl_Valence.j0] at h, fun _ _ _ _ _ r h => by simp [impl_Valence.l0] at h⟩
 | k + 1 => by
  obtain ⟨ih0, ih1⟩ := impl_Valence.mono_l k
  refine ⟨?_, ?_⟩
  ·intro y0 y1 y2 y3
   unfold impl_Valence.j0
   exact zm0
  ·intro y0 y1 y2 y3 y4
   unfold impl_Valence.l0
   exact zm0
theorem impl_Valence.mono : ∀ a0 a1 a2 k, LeO (impl_Valence.f k a0 a1 a2) (impl_Valence.f (k + 1) a0 a1 a2) := by
 intro a0 a1 a2 k; obtain ⟨ih0, ih1⟩ := impl_Valence.mono_l k; unfold impl_Valence.f; exact zm0
end Go.Proofs.Yteokcodadpjepaa.P
end

section
namespace Go.Proofs.Yteokcodadpjepaa.Cf
set_option linter.unusedVariables false
set_option linter.unusedSimpArgs false
structure Sets (n : Nat) (es : List E) (q : Int) (d u : Int → Int) : Prop where
  pos : ∀ w, 0 ≤ u w
  at_q : u q = 0
  keeps : ∀ v : Int, 0 ≤ v → v < n → v ≠ q → 0 ≤ d v - lap es u v
theorem Sets.zero {n : Nat} {es : List E} {q : Int} {d : Int → Int} (h : ∀ v : Int, 0 ≤ v → v < n → v ≠ q → 0 ≤ d v) : Sets n es q d (fun _ => 0) where
  pos := fun _ => Int.le_refl _
  at_q := rfl
  keeps := fun v h0 h1 h2 => by
    rw [lap_const (c := 0) (fun _ _ => ⟨rfl, rfl⟩)]
    have := h v h0 h1 h2
    omega
end Go.Proofs.Yteokcodadpjepaa.Cf
end

section
namespace Go.Proofs.Yteokcodadpjepaa.Cf
set_option linter.unusedVariables false
set_option linter.unusedSimpArgs false
open Go.Proofs.YteokcodadpjepaaW.PrintWords
/-- A list's numbers lie between -B and B. -/
def Bd (x : List Int) (B : Int) : Prop := ∀ w : Int, 0 ≤ w → w < x.length → -B ≤ rd x w ∧ rd x w ≤ B
theorem Bd.mono {x : List Int} {B B' : Int} (h : Bd x B) (hB : B ≤ B') : Bd x B' := fun w h0 h1 => by have := h w h0 h1; omega
/-- The list c tells s on the first n numbers. -/
def Rep (n : Nat) (c : List Int) (s : Int → Int) : Prop := c.length = n ∧ ∀ w : Int, 0 ≤ w → w < n → rd c w = s w
theorem rd_replicate (n : Nat) (v : Int) : rd (List.replicate n (0 : Int)) v = 0 := by
  unfold rd
  rw [List.getD_eq_getElem?_getD]
  by_cases h : v.toNat < n
  · rw [List.getElem?_replicate_of_lt h]; rfl
  · rw [List.getElem?_eq_none (by simp; omega)]; rfl
theorem Rep.zero (n : Nat) : Rep n (List.replicate n (0 : Int)) (fun _ => 0) := ⟨by simp, fun w _ _ => rd_replicate n w⟩
end Go.Proofs.Yteokcodadpjepaa.Cf
end

section
namespace Go.Proofs.Yteokcodadpjepaa.P
open Go.RowKit Go.Proofs.YteokcodadpjepaaW.PrintWords Go.Proofs.YteokcodadpjepaaW.PrintLast Go.Proofs.YteokcodadpjepaaW.PrintMore
attribute [local go_sem] max2_int min2_int max_two min_two max_three min_three max_four min_four
set_option linter.unusedVariables false
set_option linter.unusedSimpArgs false
def impl_copyInts.f (l0 : List Int) : Option (List Int) := if ([] : List Int).length + l0.length < 17592186044416 then (some (([] : List Int) ++ l0)) else (none)
end Go.Proofs.Yteokcodadpjepaa.P
end

section
namespace Go.Proofs.Yteokcodadpjepaa.Cf
set_option linter.unusedVariables false
set_option linter.unusedSimpArgs false
open Go.RowKit Go.Proofs.YteokcodadpjepaaW.PrintWords Go.Proofs.Yteokcodadpjepaa.P
/-- Where the graph is valid. -/
structure Gr (n : Nat) (es : List E) (q : Int) : Prop where
  n1 : 1 ≤ n
  n6 : n ≤ 6
  hes : ∀ e ∈ es, EOk n e
  hel : es.length ≤ 12
  hj : Joined n es
  hq : 0 ≤ q ∧ q < n
theorem Gr.of {n : Nat} {es : List E} {q : Int} (h : GOk (n : Int) es) (hq : 0 ≤ q ∧ q < n) : Gr n es q := by
  obtain ⟨h1, _, h3⟩ := h
  unfold EsOk at h1
  exact ⟨by omega, by omega, h1.2.2.2, h1.2.2.1, h3, hq⟩
end Go.Proofs.Yteokcodadpjepaa.Cf
end

section
namespace Go.Proofs.Yteokcodadpjepaa.P
open Go.RowKit Go.Proofs.YteokcodadpjepaaW.PrintWords Go.Proofs.YteokcodadpjepaaW.PrintLast Go.Proofs.YteokcodadpjepaaW.PrintMore
attribute [local go_sem] max2_int min2_int max_two min_two max_three min_three max_four min_four
set_option linter.unusedVariables false
set_option linter.unusedSimpArgs false
mutual
def spec_Multiplicity.j0 : Nat → Int → Int → Int → Bool → Int → List (S74) → Option (Int)
 | 0, _, _, _, _, _, _ => none
 | k + 1, x1, x2, x7, x24, x102000, x102001 => if x24 = true then (some 0) else (spec_Multiplicity.l0 k x1 x2 x7 x102001 (x102001.length : Int) 0)
def spec_Multiplicity.l0 : Nat → Int → Int → Int → List (S74) → Int → Int → Option (Int)
 | 0, _, _, _, _, _, _ => none
 | k + 1, x1, x2, x7, x26, x27, x28 => if x28 < x27 then (if 0 ≤ x28 then (if x28 < (x26.length : Int) then (if ((rd_T74 x26 x28).f0) = (mn x1 x2) then (if ((rd_T74 x26 x28).f1) = (mx x1 x2) then (spec_Multiplicity.l0 k x1 x2 (wrap64 (x7 + 1)) x26 x27 (wrap64 (x28 + 1))) else (spec_Multiplicity.l0 k x1 x2 x7 x26 x27 (wrap64 (x28 + 1)))) else (spec_Multiplicity.l0 k x1 x2 x7 x26 x27 (wrap64 (x28 + 1)))) else (none)) else (none)) else (some x7)
end
def spec_Multiplicity.f (k : Nat) (a0_0 : Int) (l0_1 : List (S74)) (a1 : Int) (a2 : Int) : Option (Int) := (spec_l02Vert.f a0_0 l0_1 a1).bind fun t102 => (if t102 = true then ((spec_l02Vert.f a0_0 l0_1 a2).bind fun t103 => (if t103 = true then (spec_Multiplicity.j0 k a1 a2 0 (a1 == a2) a0_0 l0_1) else (spec_Multiplicity.j0 k a1 a2 0 true a0_0 l0_1))) else (spec_Multiplicity.j0 k a1 a2 0 true a0_0 l0_1))
theorem spec_Multiplicity.mono_l : ∀ k, (∀ y0 y1 y2 y3 y4 y5, LeO (spec_Multiplicity.j0 k y0 y1 y2 y3 y4 y5) (spec_Multiplicity.j0 (k + 1) y0 y1 y2 y3 y4 y5)) ∧ (∀ y0 y1 y2 y3 y4 y5, LeO (spec_Multiplicity.l0 k y0 y1 y2 y3 y4 y5) (spec_Multiplicity.l0 (k + 1) y0 y1 y2 y3 y4 y5))
 | 0 => ⟨fun _ _ _ _ _ _ r h => by simp [spec_Multiplicity.j0] at h, fun _ _ _ _ _ _ r h => by simp [spec_Multiplicity.l0] at h⟩
 | k + 1 => by
  obtain ⟨ih0, ih1⟩ := spec_Multiplicity.mono_l k
  refine ⟨?_, ?_⟩
  ·intro y0 y1 y2 y3 y4 y5
   unfold spec_Multiplicity.j0
   exact zm0
  ·intro y0 y1 y2 y3 y4 y5
   unfold spec_Multiplicity.l0
   exact zm0
theorem spec_Multiplicity.mono : ∀ a0 a1 a2 a3 k, LeO (spec_Multiplicity.f k a0 a1 a2 a3) (spec_Multiplicity.f (k + 1) a0 a1 a2 a3) := by
 intro a0 a1 a2 a3 k; obtain ⟨ih0, ih1⟩ := spec_Multiplicity.mono_l k; unfold spec_Multiplicity.f; exact zm0
end Go.Proofs.Yteokcodadpjepaa.P
end

section
namespace Go.Proofs.Yteokcodadpjepaa.P
open Go.RowKit Go.Proofs.YteokcodadpjepaaW.PrintWords Go.Proofs.YteokcodadpjepaaW.PrintLast Go.Proofs.YteokcodadpjepaaW.PrintMore
attribute [local go_sem] max2_int min2_int max_two min_two max_three min_three max_four min_four
set_option linter.unusedVariables false
set_option linter.unusedSimpArgs false
mutual
def impl_Multiplicity.j0 : Nat → Int → Int → Bool → Int → List (S74) → Option (Int)
 | 0, _, _, _, _, _ => none
 | k + 1, x1, x2, x26, x102000, x102001 => if x26 = true then (some 0) else (impl_Multiplicity.l0 k x1 x2 0 x102001 (x102001.length : Int) 0)
def impl_Multiplicity.l0 : Nat → Int → Int → Int → List (S74) → Int → Int → Option (Int)
 | 0, _, _, _, _, _, _ => none
 | k + 1, x1, x2, x7, x28, x29, x30 => if x30 < x29 then (if 0 ≤ x30 then (if x30 < (x28.length : Int) then (if ((rd_T74 x28 x30).f0) = (mn x1 x2) then (if ((rd_T74 x28 x30).f1) = (mx x1 x2) then (impl_Multiplicity.l0 k x1 x2 (wrap64 (x7 + 1)) x28 x29 (wrap64 (x30 + 1))) else (impl_Multiplicity.l0 k x1 x2 x7 x28 x29 (wrap64 (x30 + 1)))) else (impl_Multiplicity.l0 k x1 x2 x7 x28 x29 (wrap64 (x30 + 1)))) else (none)) else (none)) else (some x7)
end
def impl_Multiplicity.f (k : Nat) (a0_0 : Int) (l0_1 : List (S74)) (a1 : Int) (a2 : Int) : Option (Int) := if (mn a1 a2) < 0 then (impl_Multiplicity.j0 k a1 a2 true a0_0 l0_1) else (if (mx a1 a2) ≥ a0_0 then (impl_Multiplicity.j0 k a1 a2 true a0_0 l0_1) else (impl_Multiplicity.j0 k a1 a2 (a1 == a2) a0_0 l0_1))
theorem impl_Multiplicity.mono_l : ∀ k, (∀ y0 y1 y2 y3 y4, LeO (impl_Multiplicity.j0 k y0 y1 y2 y3 y4) (impl_Multiplicity.j0 (k + 1) y0 y1 y2 y3 y4)) ∧ (∀ y0 y1 y2 y3 y4 y5, LeO (impl_Multiplicity.l0 k y0 y1 y2 y3 y4 y5) (impl_Multiplicity.l0 (k + 1) y0 y1 y2 y3 y4 y5))
 | 0 => ⟨fun _ _ _ _ _ r h => by simp [impl_Multiplicity.j0] at h, fun _ _ _ _ _ _ r h => by simp [impl_Multiplicity.l0] at h⟩
 | k + 1 => by
  obtain ⟨ih0, ih1⟩ := impl_Multiplicity.mono_l k
  refine ⟨?_, ?_⟩
  ·intro y0 y1 y2 y3 y4
   unfold impl_Multiplicity.j0
   exact zm0
  ·intro y0 y1 y2 y3 y4 y5
   unfold impl_Multiplicity.l0
   exact zm0
theorem impl_Multiplicity.mono : ∀ a0 a1 a2 a3 k, LeO (impl_Multiplicity.f k a0 a1 a2 a3) (impl_Multiplicity.f (k + 1) a0 a1 a2 a3) := by
 intro a0 a1 a2 a3 k; obtain ⟨ih0, ih1⟩ := impl_Multiplicity.mono_l k; unfold impl_Multiplicity.f; exact zm0
end Go.Proofs.Yteokcodadpjepaa.P
end

section
namespace Go.Proofs.Yteokcodadpjepaa.P
open Go.RowKit Go.Proofs.YteokcodadpjepaaW.PrintWords Go.Proofs.YteokcodadpjepaaW.PrintLast Go.Proofs.YteokcodadpjepaaW.PrintMore
attribute [local go_sem] max2_int min2_int max_two min_two max_three min_three max_four min_four
set_option linter.unusedVariables false
set_option linter.unusedSimpArgs false
mutual
def spec_l05Burn.l0 : Nat → List Int → List Int → List Bool → Int → List (S74) → Option (List Int)
 | 0, _, _, _, _, _ => none
 | k + 1, x1, x7, x8, x102000, x102001 => spec_l05Burn.l1 k x1 x7 x8 (-1) (wrap64 (x102000 - 1)) x102000 x102001
def spec_l05Burn.l1 : Nat → List Int → List Int → List Bool → Int → Int → Int → List (S74) → Option (List Int)
 | 0, _, _, _, _, _, _, _ => none
 | k + 1, x1, x7, x8, x9, x10, x102000, x102001 => if x10 ≥ 0 then (spec_l05Burn.l2 k x1 x7 x8 x9 x10 0 0 x102000 x102001) else (if x9 < 0 then (some x7) else (if 0 ≤ x9 then (if x9 < (x8.length : Int) then (if x7.length < 17592186044416 then (spec_l05Burn.l0 k x1 (x7 ++ [x9]) (x8.set (x9 : Int).toNat true) x102000 x102001) else (none)) else (none)) else (none)))
def spec_l05Burn.l2 : Nat → List Int → List Int → List Bool → Int → Int → Int → Int → Int → List (S74) → Option (List Int)
 | 0, _, _, _, _, _, _, _, _, _ => none
 | k + 1, x1, x7, x8, x9, x10, x11, x12, x102000, x102001 => if x12 < x102000 then (if 0 ≤ x12 then (if x12 < (x8.length : Int) then (if rdOf false x8 x12 = true then ((spec_Multiplicity.f k x102000 x102001 x10 x12).bind fun t114 => (spec_l05Burn.l2 k x1 x7 x8 x9 x10 (wrap64 (x11 + t114)) (wrap64 (x12 + 1)) x102000 x102001)) else (spec_l05Burn.l2 k x1 x7 x8 x9 x10 x11 (wrap64 (x12 + 1)) x102000 x102001)) else (none)) else (none)) else (if 0 ≤ x10 then (if x10 < (x8.length : Int) then (if rdOf false x8 x10 = true then (spec_l05Burn.l1 k x1 x7 x8 x9 (wrap64 (x10 - 1)) x102000 x102001) else (if x10 < (x1.length : Int) then (if (rd x1 x10) < x11 then (spec_l05Burn.l1 k x1 x7 x8 x10 (wrap64 (x10 - 1)) x102000 x102001) else (spec_l05Burn.l1 k x1 x7 x8 x9 (wrap64 (x10 - 1)) x102000 x102001)) else (none))) else (none)) else (none))
end
def spec_l05Burn.f (k : Nat) (a0_0 : Int) (l0_1 : List (S74)) (l1 : List Int) (a2 : Int) : Option (List Int) := if 0 ≤ a0_0 then (if (a0_0 : Int).toNat ≤ 281474976710656 then ((some (List.replicate (a0_0 : Int).toNat false : List Bool)).bind fun y105 => (if 0 ≤ a2 then (if a2 < (y105.length : Int) then (spec_l05Burn.l0 k l1 (([a2] : List Int)) (y105.set (a2 : Int).toNat true) a0_0 l0_1) else (none)) else (none))) else (none)) else (none)
theorem spec_l05Burn.mono_l : ∀ k, (∀ y0 y1 y2 y3 y4, LeO (spec_l05Burn.l0 k y0 y1 y2 y3 y4) (spec_l05Burn.l0 (k + 1) y0 y1 y2 y3 y4)) ∧ (∀ y0 y1 y2 y3 y4 y5 y6, LeO (spec_l05Burn.l1 k y0 y1 y2 y3 y4 y5 y6) (spec_l05Burn.l1 (k + 1) y0 y1 y2 y3 y4 y5 y6)) ∧ (∀ y0 y1 y2 y3 y4 y5 y6 y7 y8, LeO (spec_l05Burn.l2 k y0 y1 y2 y3 y4 y5 y6 y7 y8) (spec_l05Burn.l2 (k + 1) y0 y1 y2 y3 y4 y5 y6 y7 y8))
 | 0 => ⟨fun _ _ _ _ _ r h => by simp [spec_l05Burn.l0] at h, fun _ _ _ _ _ _ _ r h => by simp [spec_l05Burn.l1] at h, fun _ _ _ _ _ _ _ _ _ r h => by simp [spec_l05Burn.l2] at h⟩
 | k + 1 => by
  obtain ⟨ih0, ih1, ih2⟩ := spec_l05Burn.mono_l k
  refine ⟨?_, ?_, ?_⟩
  ·intro y0 y1 y2 y3 y4
   unfold spec_l05Burn.l0
   exact zm4
  ·intro y0 y1 y2 y3 y4 y5 y6
   unfold spec_l05Burn.l1
   exact zm4
  ·intro y0 y1 y2 y3 y4 y5 y6 y7 y8
   unfold spec_l05Burn.l2
   exact zm4
theorem spec_l05Burn.mono : ∀ a0 a1 a2 a3 k, LeO (spec_l05Burn.f k a0 a1 a2 a3) (spec_l05Burn.f (k + 1) a0 a1 a2 a3) := by
 intro a0 a1 a2 a3 k; obtain ⟨ih0, ih1, ih2⟩ := spec_l05Burn.mono_l k; unfold spec_l05Burn.f; exact zm4
end Go.Proofs.Yteokcodadpjepaa.P
end

section
namespace Go.Proofs.Yteokcodadpjepaa.P
open Go.RowKit Go.Proofs.YteokcodadpjepaaW.PrintWords Go.Proofs.YteokcodadpjepaaW.PrintLast Go.Proofs.YteokcodadpjepaaW.PrintMore
attribute [local go_sem] max2_int min2_int max_two min_two max_three min_three max_four min_four
set_option linter.unusedVariables false
set_option linter.unusedSimpArgs false
mutual
def impl_burn.l0 : Nat → List Int → List Int → Int → List (S74) → Option (List Int)
 | 0, _, _, _, _ => none
 | k + 1, x1, x7, x102000, x102001 => impl_burn.l1 k x1 x7 (-1) 0 x102000 x102001
def impl_burn.l1 : Nat → List Int → List Int → Int → Int → Int → List (S74) → Option (List Int)
 | 0, _, _, _, _, _, _ => none
 | k + 1, x1, x7, x8, x9, x102000, x102001 => if x9 < x102000 then (impl_burn.j2 k x1 x7 x8 x9 (decide (x8 < 0)) x102000 x102001) else (impl_burn.j2 k x1 x7 x8 x9 false x102000 x102001)
def impl_burn.j2 : Nat → List Int → List Int → Int → Int → Bool → Int → List (S74) → Option (List Int)
 | 0, _, _, _, _, _, _, _ => none
 | k + 1, x1, x7, x8, x9, x22, x102000, x102001 => if x22 = true then (impl_burn.l2 k x1 x7 x8 x9 0 x7 (x7.length : Int) 0 x102000 x102001) else (if x8 < 0 then (some x7) else (if x7.length < 17592186044416 then (impl_burn.l0 k x1 (x7 ++ [x8]) x102000 x102001) else (none)))
def impl_burn.l2 : Nat → List Int → List Int → Int → Int → Int → List Int → Int → Int → Int → List (S74) → Option (List Int)
 | 0, _, _, _, _, _, _, _, _, _, _ => none
 | k + 1, x1, x7, x8, x9, x10, x25, x26, x27, x102000, x102001 => if x27 < x26 then (if 0 ≤ x27 then (if x27 < (x25.length : Int) then ((impl_Multiplicity.f k x102000 x102001 x9 (rd x25 x27)).bind fun t109 => (impl_burn.l2 k x1 x7 x8 x9 (wrap64 (x10 + t109)) x25 x26 (wrap64 (x27 + 1)) x102000 x102001)) else (none)) else (none)) else ((slices_Contains_int_int.f k x7 x9).bind fun t110 => (if t110 = true then (impl_burn.l1 k x1 x7 x8 (wrap64 (x9 + 1)) x102000 x102001) else (if 0 ≤ x9 then (if x9 < (x1.length : Int) then (if (rd x1 x9) < x10 then (impl_burn.l1 k x1 x7 x9 (wrap64 (x9 + 1)) x102000 x102001) else (impl_burn.l1 k x1 x7 x8 (wrap64 (x9 + 1)) x102000 x102001)) else (none)) else (none))))
end
def impl_burn.f (k : Nat) (a0_0 : Int) (l0_1 : List (S74)) (l1 : List Int) (a2 : Int) : Option (List Int) := impl_burn.l0 k l1 (([a2] : List Int)) a0_0 l0_1
theorem impl_burn.mono_l : ∀ k, (∀ y0 y1 y2 y3, LeO (impl_burn.l0 k y0 y1 y2 y3) (impl_burn.l0 (k + 1) y0 y1 y2 y3)) ∧ (∀ y0 y1 y2 y3 y4 y5, LeO (impl_burn.l1 k y0 y1 y2 y3 y4 y5) (impl_burn.l1 (k + 1) y0 y1 y2 y3 y4 y5)) ∧ (∀ y0 y1 y2 y3 y4 y5 y6, LeO (impl_burn.j2 k y0 y1 y2 y3 y4 y5 y6) (impl_burn.j2 (k + 1) y0 y1 y2 y3 y4 y5 y6)) ∧ (∀ y0 y1 y2 y3 y4 y5 y6 y7 y8 y9, LeO (impl_burn.l2 k y0 y1 y2 y3 y4 y5 y6 y7 y8 y9) (impl_burn.l2 (k + 1) y0 y1 y2 y3 y4 y5 y6 y7 y8 y9))
 | 0 => ⟨fun _ _ _ _ r h => by simp [impl_burn.l0] at h, fun _ _ _ _ _ _ r h => by simp [impl_burn.l1] at h, fun _ _ _ _ _ _ _ r h => by simp [impl_burn.j2] at h, fun _ _ _ _ _ _ _ _ _ _ r h => by simp [impl_burn.l2] at h⟩
 | k + 1 => by
  obtain ⟨ih0, ih1, ih2, ih3⟩ := impl_burn.mono_l k
  refine ⟨?_, ?_, ?_, ?_⟩
  ·intro y0 y1 y2 y3
   unfold impl_burn.l0
   exact zm3
  ·intro y0 y1 y2 y3 y4 y5
   unfold impl_burn.l1
   exact zm3
  ·intro y0 y1 y2 y3 y4 y5 y6
   unfold impl_burn.j2
   exact zm3
  ·intro y0 y1 y2 y3 y4 y5 y6 y7 y8 y9
   unfold impl_burn.l2
   exact zm3
theorem impl_burn.mono : ∀ a0 a1 a2 a3 k, LeO (impl_burn.f k a0 a1 a2 a3) (impl_burn.f (k + 1) a0 a1 a2 a3) := by
 intro a0 a1 a2 a3 k; obtain ⟨ih0, ih1, ih2, ih3⟩ := impl_burn.mono_l k; unfold impl_burn.f; exact zm3
end Go.Proofs.Yteokcodadpjepaa.P
end

section
namespace Go.Proofs.Yteokcodadpjepaa.Cf
set_option linter.unusedVariables false
set_option linter.unusedSimpArgs false
open Go.RowKit Go.Proofs.YteokcodadpjepaaW.PrintWords Go.Proofs.YteokcodadpjepaaW.PrintMore Go.Proofs.Yteokcodadpjepaa.P
/-- The first place, counted from i; or -1. -/
def idxF (x : Int) : List Int → Nat → Int
  | [], _ => -1
  | a :: r, i => if x = a then i else idxF x r (i + 1)
theorem idxF_drop {l : List Int} {i : Nat} (h : i < l.length) (x : Int) (j : Nat) : idxF x (l.drop i) j = if x = l[i] then (j : Int) else idxF x (l.drop (i + 1)) (j + 1) := by
  rw [List.drop_eq_getElem_cons h]
  rfl
theorem idxF_mem (x : Int) : ∀ (l : List Int) (i : Nat), 0 ≤ idxF x l i ↔ x ∈ l
  | [], i => by simp [idxF]
  | a :: r, i => by
    unfold idxF
    by_cases h : x = a
    · rw [if_pos h, h]; simp
    · rw [if_neg h, idxF_mem x r (i + 1)]; simp [h]
theorem index_l0 (l : List Int) (x : Int) (hl : l.length ≤ 1048576) : ∀ (d i : Nat), i + d = l.length → Ep (fun k => slices_Index_int_int.l0 k l x (l.length : Int) (i : Int)) (· = idxF x (l.drop i) i) := by
  intro d
  induction d with
  | zero =>
    intro i hi
    refine Ep.up ?_
    simp only [slices_Index_int_int.l0]
    refine Ep.neg (by omega) (Ep.now ?_)
    rw [List.drop_of_length_le (by omega)]
    rfl
  | succ d ih =>
    intro i hi
    have hlt : i < l.length := by omega
    refine Ep.up ?_
    simp only [slices_Index_int_int.l0]
    refine Ep.pos (by omega) (Ep.pos (by omega) (Ep.pos (by omega) ?_))
    rw [rd_get hlt, wrap_succ (by omega), idxF_drop hlt]
    refine Ep.ite (fun h => Ep.now ?_) (fun h => ?_)
    · rw [if_pos h]
    · rw [if_neg h]
      exact ih (i + 1) (by omega)
theorem index_ok (l : List Int) (x : Int) (hl : l.length ≤ 1048576) : Ep (fun k => slices_Index_int_int.f k l x) (· = idxF x l 0) := by
  have := index_l0 l x hl l.length 0 (by omega)
  simp only [slices_Index_int_int.f]
  exact this
theorem contains_ok (l : List Int) (x : Int) (hl : l.length ≤ 1048576) : Ep (fun k => slices_Contains_int_int.f k l x) (· = decide (x ∈ l)) := by
  simp only [slices_Contains_int_int.f]
  refine Ep.bind (index_ok l x hl) ?_
  rintro _ rfl
  refine Ep.now ?_
  have := idxF_mem x l 0
  simp only [ge_iff_le, this]
end Go.Proofs.Yteokcodadpjepaa.Cf
end

section
namespace Go.Proofs.Yteokcodadpjepaa.Cf
set_option linter.unusedVariables false
set_option linter.unusedSimpArgs false
open Go.RowKit Go.Proofs.YteokcodadpjepaaW.PrintWords Go.Proofs.Yteokcodadpjepaa.P
/-- What burns, as a list. -/
def blB (n b : Nat) : List Bool := (List.range n).map fun v => b.testBit v
theorem blB_len (n b : Nat) : (blB n b).length = n := by simp [blB]
theorem blB_rd {n b : Nat} {x : Int} (h0 : 0 ≤ x) (h1 : x < n) : rdOf false (blB n b) x = b.testBit x.toNat := by
  unfold rdOf blB
  rw [List.getD_eq_getElem?_getD, List.getElem?_eq_getElem (by simp; omega)]
  simp
theorem blB_set {n b o : Nat} (ho : o < n) : (blB n b).set o true = blB n (b ||| 2 ^ o) := by
  refine List.ext_getElem (by simp [blB]) fun i h1 h2 => ?_
  rw [List.getElem_set]
  simp only [blB, List.getElem_map, List.getElem_range, Nat.testBit_or, Nat.testBit_two_pow]
  by_cases c : o = i
  · rw [if_pos c, decide_eq_true c, Bool.or_true]
  · rw [if_neg c, decide_eq_false c, Bool.or_false]
theorem rdEz {es : List E} {i : Nat} (h : i < es.length) : es.getD i ⟨0, 0⟩ = es[i] := by
  rw [List.getD_eq_getElem?_getD, List.getElem?_eq_getElem h]
  rfl
theorem rdB_nat {l : List Bool} (i : Nat) : rdOf false l (i : Int) = l.getD i false := by
  unfold rdOf
  rw [Int.toNat_natCast]
theorem nextE_none {es : List E} {tk : List Bool} {b : Nat} : ∀ {d i : Nat}, nextE es tk b d i = none → ∀ j, i ≤ j → j < i + d → tk.getD j true = true ∨ crossE b (es.getD j ⟨0, 0⟩) = false
  | 0, _, _, j, _, _ => by omega
  | d + 1, i, h, j, h1, h2 => by
    unfold nextE at h
    split at h
    · cases h
    · rename_i c
      by_cases e : j = i
      · subst e
        simp only [Bool.and_eq_true, Bool.not_eq_true', not_and, Bool.not_eq_true] at c
        by_cases t : tk.getD j true = true
        · exact Or.inl t
        · exact Or.inr (c (by simpa using t))
      · exact nextE_none h j (by omega) (by omega)
def nxtO (es : List E) (b : Nat) : Option Nat → Int × Int
  | none => (-1, -1)
  | some i => ((i : Int), (otherE es b i : Int))
theorem nxtO_at {es : List E} {b i : Nat} (hi : i < es.length) (h0 : 0 ≤ es[i].f0) (h1 : 0 ≤ es[i].f1) : nxtO es b (some i) = ((i : Int), if b.testBit es[i].f0.toNat = true then es[i].f1 else es[i].f0) := by
  show ((i : Int), (otherE es b i : Int)) = _
  have e : (otherE es b i : Int) = if b.testBit es[i].f0.toNat = true then es[i].f1 else es[i].f0 := by
    unfold otherE
    rw [rdEz hi]
    by_cases y : b.testBit es[i].f0.toNat = true
    · rw [if_pos y, if_pos y, Int.toNat_of_nonneg h1]
    · rw [if_neg y, if_neg y, Int.toNat_of_nonneg h0]
  rw [e]
theorem specNxtE_l0 {n : Nat} {es : List E} (hes : ∀ e ∈ es, EOk n e) (hel : es.length ≤ 12) (b : Nat) {tk : List Bool} (ht : tk.length = es.length) : ∀ (d i : Nat), i + d = es.length →
    Ep (fun k => spec_l12Next.l0 k (blB n b) tk es (es.length : Int) (i : Int)) (· = nxtO es b (nextE es tk b (es.length - i) i)) := by
  intro d
  induction d with
  | zero =>
    intro i hi
    refine Ep.up ?_
    simp only [spec_l12Next.l0]
    refine Ep.neg (by omega) (Ep.now ?_)
    rw [show es.length - i = 0 by omega]
    rfl
  | succ d ih =>
    intro i hi
    have hlt : i < es.length := by omega
    have h := ih (i + 1) (by omega)
    have he := hes _ (List.getElem_mem hlt)
    unfold EOk at he
    have hbl := blB_len n b
    have e0 := blB_rd (n := n) (b := b) he.1 (by omega)
    have e1 := blB_rd (n := n) (b := b) (x := es[i].f1) (by omega) he.2.2
    have eg := rdEz hlt
    refine Ep.up ?_
    simp only [spec_l12Next.l0]
    rw [rdE_get hlt, rdB_nat]
    refine Ep.pos (by omega) (Ep.pos (by omega) (Ep.pos (by omega) (Ep.pos (by omega) ?_)))
    by_cases c : tk.getD i false = true
    · refine Ep.pos c (Ep.up ?_)
      simp only [spec_l12Next.j1]
      refine Ep.pos trivial ?_
      rw [wrap_succ (by omega), nextE_skip hlt ht (Or.inl c)]
      exact h
    · refine Ep.neg c (Ep.pos (by omega) (Ep.pos (by omega) (Ep.pos (by omega) (Ep.pos (by omega) ?_))))
      rw [e0, e1]
      have c' : tk.getD i false = false := by simpa using c
      refine Ep.up ?_
      simp only [spec_l12Next.j1]
      rw [e0]
      by_cases x : crossE b es[i] = true
      · have x2 : (b.testBit es[i].f0.toNat == b.testBit es[i].f1.toNat) = false := by
          unfold crossE at x
          simpa [bne] using x
        rw [nextE_hit hlt ht c' (by rw [eg]; exact x)]
        refine Ep.neg (by rw [x2]; simp) (Ep.pos (by omega) (Ep.pos (by omega) ?_))
        rw [nxtO_at hlt he.1 (by omega)]
        by_cases y : b.testBit es[i].f0.toNat = true
        · exact Ep.pos y (Ep.now (by rw [if_pos y]))
        · exact Ep.neg y (Ep.now (by rw [if_neg y]))
      · have x' : crossE b es[i] = false := by simpa using x
        have x2 : (b.testBit es[i].f0.toNat == b.testBit es[i].f1.toNat) = true := by
          unfold crossE at x'
          simpa [bne] using x'
        refine Ep.pos x2 ?_
        rw [wrap_succ (by omega), nextE_skip hlt ht (Or.inr (by rw [eg]; exact x'))]
        exact h
theorem specNxtE {n : Nat} {es : List E} (hes : ∀ e ∈ es, EOk n e) (hel : es.length ≤ 12) (b : Nat) {tk : List Bool} (ht : tk.length = es.length) : Ep (fun k => spec_l12Next.f k (n : Int) es (blB n b) tk) (· = nxtO es b (nextE es tk b es.length 0)) := by
  simp only [spec_l12Next.f]
  exact specNxtE_l0 hes hel b ht es.length 0 (by omega)
theorem specSorted_l1 {L : List Int} (hL : L.length ≤ 100) {i : Nat} {m : Nat} (hm : m ≤ 100) (hn : ∀ x3 : List Int, x3.length = m → Ep (fun k => spec_l12Sorted.l0 k x3 L (L.length : Int) ((i + 1 : Nat) : Int)) (fun _ => True)) (hi : i < 100) (x5 : Int) :
    ∀ (j : Nat) (x3 : List Int), x3.length = m → j < m → Ep (fun k => spec_l12Sorted.l1 k x3 x5 (j : Int) L (L.length : Int) (i : Int)) (fun _ => True) := by
  intro j
  induction j with
  | zero =>
    intro x3 h3 hj
    refine Ep.up ?_
    simp only [spec_l12Sorted.l1]
    refine Ep.neg (by omega) (Ep.pos (by omega) (Ep.pos (by omega) ?_))
    rw [wrap_succ (by omega)]
    exact hn _ (by rw [List.length_set]; exact h3)
  | succ j ih =>
    intro x3 h3 hj
    have e : wrap64 (((j + 1 : Nat) : Int) - 1) = (j : Int) := by rw [wrap_id (by omega) (by omega)]; omega
    refine Ep.up ?_
    simp only [spec_l12Sorted.l1]
    rw [e]
    refine Ep.pos (by omega) (Ep.pos (by omega) (Ep.pos (by omega) (Ep.ite (fun _ => ?_) (fun _ => ?_))))
    · exact Ep.pos (by omega) (Ep.pos (by omega) (ih _ (by rw [List.length_set]; exact h3) (by omega)))
    · refine Ep.pos (by omega) (Ep.pos (by omega) ?_)
      rw [wrap_succ (by omega)]
      exact hn _ (by rw [List.length_set]; exact h3)
theorem specSorted_l0 {L : List Int} (hL : L.length ≤ 100) : ∀ (d i : Nat) (x3 : List Int), i + d = L.length → x3.length = i → Ep (fun k => spec_l12Sorted.l0 k x3 L (L.length : Int) (i : Int)) (fun _ => True) := by
  intro d
  induction d with
  | zero =>
    intro i x3 hi _
    refine Ep.up ?_
    simp only [spec_l12Sorted.l0]
    exact Ep.neg (by omega) (Ep.now trivial)
  | succ d ih =>
    intro i x3 hi h3
    refine Ep.up ?_
    simp only [spec_l12Sorted.l0]
    refine Ep.pos (by omega) (Ep.pos (by omega) (Ep.pos (by omega) (Ep.pos (by omega) (Ep.bind0 rfl ?_))))
    have hl : (x3 ++ [(0 : Int)]).length = i + 1 := by rw [List.length_append, h3]; rfl
    have e : wrap64 (((x3 ++ [(0 : Int)]).length : Int) - 1) = (i : Int) := by rw [hl, wrap_id (by omega) (by omega)]; omega
    rw [e]
    exact specSorted_l1 hL (m := i + 1) (by omega) (fun y hy => ih (i + 1) y (by omega) hy) (by omega) _ i _ hl (by omega)
theorem specSorted (L : List Int) (hL : L.length ≤ 100) : Ep (fun k => spec_l12Sorted.f k L) (fun _ => True) := by
  simp only [spec_l12Sorted.f]
  exact specSorted_l0 hL L.length 0 [] (by omega) rfl
structure WInv (n : Nat) (es : List E) (tree : List Int) (q d b : Nat) (lost : List Int) (tk : List Bool) (f : List Int) : Prop where
  b64 : b < 64
  ll : lost.length = n
  lt : tk.length = es.length
  lf : f.length = n
  bq : b.testBit q = true
  fq : f.getD q 0 = -1
  fv : ∀ v, v < n → v ≠ q → b.testBit v = true → f.getD v 0 = lost.getD v 0
  bd : ∀ v, v < n → 0 ≤ lost.getD v 0 ∧ lost.getD v 0 + d ≤ 12
  tr : ∀ i, i < es.length → tk.getD i false = true → (i : Int) ∈ tree → b.testBit (es.getD i ⟨0, 0⟩).f0.toNat = true ∧ b.testBit (es.getD i ⟨0, 0⟩).f1.toNat = true
theorem all_burn {n : Nat} {es : List E} (hes : ∀ e ∈ es, EOk n e) {tree : List Int} (hr : InR es tree tree.length) (hj : Joined n (edgesAt es tree)) {q : Nat} (hq : q < n) {d b : Nat} {lost : List Int} {tk : List Bool} {f : List Int}
    (h : WInv n es tree q d b lost tk f) (hx : nextE es tk b es.length 0 = none) : ∀ v, v < n → b.testBit v = true := by
  intro v hv
  have hc : Conn (edgesAt es tree) (q : Int) (v : Int) := (hj q (by omega) (by omega)).symm.trans (hj v (by omega) (by omega))
  have key : (0 ≤ (v : Int) ∧ (v : Int) < n) ∧ b.testBit (v : Int).toNat = true := by
    refine hc.closed (S := fun x => (0 ≤ x ∧ x < n) ∧ b.testBit x.toNat = true) ?_ ⟨⟨by omega, by omega⟩, by simpa using h.bq⟩
    rintro a c ⟨ha, hb⟩ ⟨e, he, hac⟩
    unfold edgesAt at he
    obtain ⟨k, hk, rfl⟩ := List.mem_map.1 he
    obtain ⟨j, hj2, rfl⟩ := List.getElem_of_mem hk
    have hrg := hr j hj2 hj2
    have hlt : tree[j].toNat < es.length := by omega
    have heo := hes _ (List.getElem_mem hlt)
    rw [rdEz hlt] at hac
    unfold EOk at heo
    have both : b.testBit es[tree[j].toNat].f0.toNat = true ∧ b.testBit es[tree[j].toNat].f1.toNat = true := by
      rcases nextE_none hx tree[j].toNat (by omega) (by omega) with t | t
      · rw [getD_in (by rw [h.lt]; exact hlt)] at t
        have := h.tr _ hlt t (by rw [Int.toNat_of_nonneg hrg.1]; exact hk)
        rwa [rdEz hlt] at this
      · rw [rdEz hlt] at t
        have t2 : b.testBit es[tree[j].toNat].f0.toNat = b.testBit es[tree[j].toNat].f1.toNat := by
          unfold crossE at t
          simpa [bne] using t
        rcases hac with ⟨h1, h2⟩ | ⟨h1, h2⟩
        · rw [h1, hb] at t2
          rw [h1]
          exact ⟨hb, t2.symm⟩
        · rw [h2, hb] at t2
          rw [h2]
          exact ⟨t2, hb⟩
    rcases hac with ⟨h1, h2⟩ | ⟨h1, h2⟩
    · rw [← h2]
      exact ⟨⟨by omega, by omega⟩, both.2⟩
    · rw [← h1]
      exact ⟨⟨by omega, by omega⟩, both.1⟩
  simpa using key.2
theorem end_eq {n : Nat} {es : List E} {tree : List Int} {q : Nat} (hq : q < n) {d b : Nat} {lost : List Int} {tk : List Bool} {f : List Int} (h : WInv n es tree q d b lost tk f) (ha : ∀ v, v < n → b.testBit v = true) : lost.set q (-1) = f := by
  refine List.ext_getElem (by rw [List.length_set, h.ll, h.lf]) fun i h1 h2 => ?_
  rw [List.getElem_set]
  rw [List.length_set] at h1
  have e1 : f.getD i 0 = f[i] := by rw [List.getD_eq_getElem?_getD, List.getElem?_eq_getElem h2]; rfl
  have e2 : lost.getD i 0 = lost[i] := by rw [List.getD_eq_getElem?_getD, List.getElem?_eq_getElem h1]; rfl
  by_cases c : q = i
  · subst c
    rw [if_pos rfl, ← e1, h.fq]
  · rw [if_neg c, ← e1, ← e2, h.fv i (by have := h.ll; omega) (fun x => c x.symm) (ha i (by have := h.ll; omega))]
theorem getD_setB (tk : List Bool) (i j : Nat) (hi : i < tk.length) : (tk.set i true).getD j false = if i = j then true else tk.getD j false := by
  rw [List.getD_eq_getElem?_getD, List.getD_eq_getElem?_getD]
  by_cases c : i = j
  · subst c
    rw [if_pos rfl, List.getElem?_set_self hi]
    rfl
  · rw [if_neg c, List.getElem?_set_ne c]
theorem getD_setI (l : List Int) (i j : Nat) (x : Int) (hi : i < l.length) : (l.set i x).getD j 0 = if i = j then x else l.getD j 0 := by
  rw [List.getD_eq_getElem?_getD, List.getD_eq_getElem?_getD]
  by_cases c : i = j
  · subst c
    rw [if_pos rfl, List.getElem?_set_self hi]
    rfl
  · rw [if_neg c, List.getElem?_set_ne c]
theorem count_set {tk : List Bool} {i : Nat} (hi : i < tk.length) (h : tk.getD i true = false) : (tk.set i true).count false + 1 = tk.count false := by
  have e : tk[i] = false := by
    rw [List.getD_eq_getElem?_getD, List.getElem?_eq_getElem hi] at h
    exact h
  have hm : 0 < tk.count false := List.count_pos_iff.2 (by rw [← e]; exact List.getElem_mem hi)
  rw [List.count_set hi, e]
  simp
  omega
theorem tb_or {b o v : Nat} (h : b.testBit v = true) : (b ||| 2 ^ o).testBit v = true := by rw [Nat.testBit_or, h, Bool.true_or]
theorem tb_self (b o : Nat) : (b ||| 2 ^ o).testBit o = true := by rw [Nat.testBit_or, Nat.testBit_two_pow, decide_eq_true rfl, Bool.or_true]
/-- The other end does not burn; the first one does. -/
theorem other_ok {n : Nat} {es : List E} (hes : ∀ e ∈ es, EOk n e) {b i : Nat} (hi : i < es.length) (hc : crossE b (es.getD i ⟨0, 0⟩) = true) : otherE es b i < n ∧ b.testBit (otherE es b i) = false ∧ (b ||| 2 ^ otherE es b i).testBit (es.getD i ⟨0, 0⟩).f0.toNat = true ∧ (b ||| 2 ^ otherE es b i).testBit (es.getD i ⟨0, 0⟩).f1.toNat = true := by
  have he := hes _ (List.getElem_mem hi)
  unfold EOk at he
  rw [rdEz hi] at hc ⊢
  unfold otherE
  rw [rdEz hi]
  unfold crossE at hc
  by_cases c : b.testBit es[i].f0.toNat = true
  · rw [if_pos c]
    rw [c] at hc
    refine ⟨by omega, ?_, tb_or c, tb_self _ _⟩
    cases h : b.testBit es[i].f1.toNat with
    | false => rfl
    | true => rw [h] at hc; simp at hc
  · rw [if_neg c]
    have c' : b.testBit es[i].f0.toNat = false := by simpa using c
    rw [c'] at hc
    refine ⟨by omega, c', tb_self _ _, tb_or ?_⟩
    cases h : b.testBit es[i].f1.toNat with
    | true => rfl
    | false => rw [h] at hc; simp at hc
theorem specCond {tree : List Int} (z lost : List Int) (ht0 : 0 < tree.length) (i o : Int) (hl : tree.length ≤ 1048576) : Ep (fun k => spec_l12Walk.cond k z tree lost i o) (· = decide (i ∈ tree)) := by
  simp only [spec_l12Walk.cond]
  exact Ep.neg (by omega) (specHas tree i hl)
theorem park_main {n : Nat} (hn : n ≤ 6) {es : List E} (hes : ∀ e ∈ es, EOk n e) (hel : es.length ≤ 12) {tree : List Int} (ht0 : 0 < tree.length) (htl : tree.length ≤ 12) (hr : InR es tree tree.length) (hj : Joined n (edgesAt es tree)) {q : Nat} (hq : q < n) {z : List Int} (hz : z.length = n) :
    ∀ (d b : Nat) (lost : List Int) (tk : List Bool) (f : List Int), tk.count false = d → WInv n es tree q d b lost tk f →
      ∃ r : List Int, Ep (fun k => impl_ParkingOfTree.wk es tree k b lost tk f) (· = r) ∧ r.length = n ∧ ∀ out : List Int, out.length + d ≤ 12 → Ep (fun k => spec_l12Walk.wk (n : Int) es q z tree k (blB n b) tk lost out) (fun p => p.2 = r) := by
  intro d
  induction d with
  | zero =>
    intro b lost tk f hd h
    have hx : nextE es tk b es.length 0 = none := by
      cases hx : nextE es tk b es.length 0 with
      | none => rfl
      | some i =>
        obtain ⟨_, h2, h3, _⟩ := nextE_lt hx
        have hi : i < tk.length := by rw [h.lt]; omega
        have := count_set hi h3
        omega
    refine ⟨f, ?_, h.lf, fun out ho => ?_⟩
    · refine Ep.up ?_
      simp only [impl_ParkingOfTree.wk]
      rw [hx]
      exact Ep.now rfl
    · refine Ep.up ?_
      simp only [spec_l12Walk.wk]
      refine Ep.bind (specNxtE hes hel b h.lt) ?_
      rintro _ rfl
      rw [hx]
      simp only [nxtO]
      have hll := h.ll
      refine Ep.pos (by omega) (Ep.bind (specSorted out (by omega)) fun x _ => Ep.now ?_)
      show lost.set q (-1) = f
      exact end_eq hq h (all_burn hes hr hj hq h hx)
  | succ d ih =>
    intro b lost tk f hd h
    cases hx : nextE es tk b es.length 0 with
    | none =>
      refine ⟨f, ?_, h.lf, fun out ho => ?_⟩
      · refine Ep.up ?_
        simp only [impl_ParkingOfTree.wk]
        rw [hx]
        exact Ep.now rfl
      · refine Ep.up ?_
        simp only [spec_l12Walk.wk]
        refine Ep.bind (specNxtE hes hel b h.lt) ?_
        rintro _ rfl
        rw [hx]
        simp only [nxtO]
        have hll := h.ll
        refine Ep.pos (by omega) (Ep.bind (specSorted out (by omega)) fun x _ => Ep.now ?_)
        show lost.set q (-1) = f
        exact end_eq hq h (all_burn hes hr hj hq h hx)
    | some i =>
      obtain ⟨_, hi0, ht, hc⟩ := nextE_lt hx
      have hi : i < es.length := by omega
      have hit : i < tk.length := by rw [h.lt]; exact hi
      obtain ⟨o1, o2, o3, o4⟩ := other_ok hes hi hc
      have hcnt := count_set hit ht
      generalize ho : otherE es b i = o at o1 o2 o3 o4
      have hoq : o ≠ q := fun e => by rw [e, h.bq] at o2; cases o2
      have hll := h.ll
      have hlf := h.lf
      have hlt := h.lt
      have hbl := blB_len n b
      have hbo := h.bd o o1
      have hrd : rd lost (o : Int) = lost.getD o 0 := rd_nat lost o
      by_cases hm : (i : Int) ∈ tree
      · have hW : WInv n es tree q d (b ||| 2 ^ o) lost (tk.set i true) (f.set o (lost.getD o 0)) := by
          refine ⟨(or_at h.b64 (by omega)).2, hll, by rw [List.length_set]; exact hlt, by rw [List.length_set]; exact hlf, tb_or h.bq, ?_, ?_, ?_, ?_⟩
          · rw [getD_setI _ _ _ _ (by omega), if_neg hoq]
            exact h.fq
          · intro v hv hvq hb
            rw [getD_setI _ _ _ _ (by omega)]
            by_cases c : o = v
            · rw [if_pos c, c]
            · rw [if_neg c]
              refine h.fv v hv hvq ?_
              rw [Nat.testBit_or, Nat.testBit_two_pow, decide_eq_false c, Bool.or_false] at hb
              exact hb
          · intro v hv
            have := h.bd v hv
            omega
          · intro j hj1 hj2 hj3
            rw [getD_setB _ _ _ hit] at hj2
            by_cases c : i = j
            · subst c
              exact ⟨o3, o4⟩
            · rw [if_neg c] at hj2
              have := h.tr j hj1 hj2 hj3
              exact ⟨tb_or this.1, tb_or this.2⟩
        obtain ⟨r, h1, h2, h3⟩ := ih (b ||| 2 ^ o) lost (tk.set i true) (f.set o (lost.getD o 0)) (by omega) hW
        refine ⟨r, ?_, h2, fun out hout => ?_⟩
        · refine Ep.up ?_
          simp only [impl_ParkingOfTree.wk]
          rw [hx]
          refine Ep.bind (contains_ok tree (i : Int) (by omega)) ?_
          rintro _ rfl
          refine Ep.pos (by simpa using hm) ?_
          rw [ho, hrd]
          exact h1
        · refine Ep.up ?_
          simp only [spec_l12Walk.wk]
          refine Ep.bind (specNxtE hes hel b h.lt) ?_
          rintro _ rfl
          rw [hx]
          simp only [nxtO, ho]
          refine Ep.neg (by omega) (Ep.pos ⟨⟨by omega, by omega⟩, ⟨by omega, by omega⟩, by omega, by omega, by omega⟩ (Ep.bind (specCond z lost ht0 (i : Int) (o : Int) (by omega)) ?_))
          rintro _ rfl
          refine Ep.pos (by simpa using hm) ?_
          rw [Int.toNat_natCast, Int.toNat_natCast, blB_set o1]
          exact h3 (out ++ [(i : Int)]) (by rw [List.length_append]; simp only [List.length_cons, List.length_nil]; omega)
      · have hw : wrap64 (lost.getD o 0 + 1) = lost.getD o 0 + 1 := wrap_id (by omega) (by omega)
        have hW : WInv n es tree q d b (lost.set o (lost.getD o 0 + 1)) (tk.set i true) f := by
          refine ⟨h.b64, by rw [List.length_set]; exact hll, by rw [List.length_set]; exact hlt, hlf, h.bq, h.fq, ?_, ?_, ?_⟩
          · intro v hv hvq hb
            rw [getD_setI _ _ _ _ (by omega), if_neg (fun e => by rw [e, hb] at o2; cases o2)]
            exact h.fv v hv hvq hb
          · intro v hv
            have := h.bd v hv
            rw [getD_setI _ _ _ _ (by omega)]
            by_cases c : o = v
            · rw [if_pos c]
              omega
            · rw [if_neg c]
              omega
          · intro j hj1 hj2 hj3
            rw [getD_setB _ _ _ hit] at hj2
            by_cases c : i = j
            · subst c
              exact absurd hj3 hm
            · rw [if_neg c] at hj2
              exact h.tr j hj1 hj2 hj3
        obtain ⟨r, h1, h2, h3⟩ := ih b (lost.set o (lost.getD o 0 + 1)) (tk.set i true) f (by omega) hW
        refine ⟨r, ?_, h2, fun out hout => ?_⟩
        · refine Ep.up ?_
          simp only [impl_ParkingOfTree.wk]
          rw [hx]
          refine Ep.bind (contains_ok tree (i : Int) (by omega)) ?_
          rintro _ rfl
          refine Ep.neg (by simpa using hm) ?_
          rw [ho, hrd, hw]
          exact h1
        · refine Ep.up ?_
          simp only [spec_l12Walk.wk]
          refine Ep.bind (specNxtE hes hel b h.lt) ?_
          rintro _ rfl
          rw [hx]
          simp only [nxtO, ho]
          refine Ep.neg (by omega) (Ep.pos ⟨⟨by omega, by omega⟩, ⟨by omega, by omega⟩, by omega, by omega, by omega⟩ (Ep.bind (specCond z lost ht0 (i : Int) (o : Int) (by omega)) ?_))
          rintro _ rfl
          refine Ep.neg (by simpa using hm) ?_
          rw [Int.toNat_natCast, Int.toNat_natCast, hrd, hw]
          exact h3 out (by omega)
theorem oneAt_at {n : Nat} (es : List E) {v : Int} (hn : n ≤ 6) (h0 : 0 ≤ v) (h1 : v < n) (t : Int) : impl_oneAt.f (n : Int) es v t = some ((List.replicate n (0 : Int)).set v.toNat t) := by
  unfold impl_oneAt.f
  rw [if_pos (by omega), if_pos (by omega), Option.bind_some, if_pos h0, if_pos (by simp; omega)]
  rfl
theorem blB_zero (n : Nat) : blB n 0 = List.replicate n false := by
  refine List.ext_getElem (by simp [blB]) fun i h1 h2 => ?_
  simp [blB]
theorem two_lt {q : Nat} (hq : q < 6) : 2 ^ q < 64 := (one_at (a := (q : Int)) (by omega) (by omega)).2
theorem start_inv {n : Nat} (hn : n ≤ 6) {es : List E} (hel : es.length ≤ 12) (tree : List Int) {q : Nat} (hq : q < n) : WInv n es tree q es.length (2 ^ q) (List.replicate n 0) (List.replicate es.length false) ((List.replicate n 0).set q (-1)) := by
  have hrep : ∀ v, v < n → (List.replicate n (0 : Int)).getD v 0 = 0 := fun v hv => by
    rw [List.getD_eq_getElem?_getD, List.getElem?_replicate, if_pos hv]
    rfl
  refine ⟨two_lt (by omega), List.length_replicate, List.length_replicate, by rw [List.length_set, List.length_replicate], ?_, ?_, ?_, ?_, ?_⟩
  · rw [Nat.testBit_two_pow]
    exact decide_eq_true rfl
  · rw [getD_setI _ _ _ _ (by rw [List.length_replicate]; exact hq), if_pos rfl]
  · intro v hv hvq hb
    rw [Nat.testBit_two_pow] at hb
    exact absurd (of_decide_eq_true hb).symm hvq
  · intro v hv
    rw [hrep v hv]
    omega
  · intro i hi h
    rw [List.getD_eq_getElem?_getD, List.getElem?_replicate, if_pos hi] at h
    cases h
theorem park_ex (n : Int) (es : List E) (tree : List Int) (q : Int) (hl : tree.length ≤ 1048576) : ∃ p : List Int × Bool, p.1.length ≤ 6 ∧ Ep (fun k => spec_ParkingOfTree.f k n es tree q) (· = p) ∧ Ep (fun k => impl_ParkingOfTree.f k n es tree q) (· = p) := by
  have no : ∀ k, spec_ParkingOfTree.j0 (k + 1) tree q true n es = some ([], false) := fun k => by
    simp only [spec_ParkingOfTree.j0]
    rfl
  have noE : Ep (fun k => spec_ParkingOfTree.j0 k tree q true n es) (· = (([] : List Int), false)) := Ep.up (Ep.congr (fun k => no k) (Ep.now rfl))
  by_cases ht : treeB n es tree = true
  · have hT := treeB_iff.1 ht
    obtain ⟨hg, hlen, hr, hu, hj⟩ := hT
    have hG := hg.1
    unfold EsOk at hG
    obtain ⟨m, rfl⟩ := Int.eq_ofNat_of_zero_le (show 0 ≤ n by omega)
    have hw : wrap64 ((m : Int) - 1) = (m : Int) - 1 := wrap_id (by omega) (by omega)
    by_cases hq : 0 ≤ q ∧ q ≤ (m : Int) - 1
    · obtain ⟨x, rfl⟩ := Int.eq_ofNat_of_zero_le hq.1
      have hx : x < m := by omega
      have hone := oneAt_at (n := m) es (v := (x : Int)) (by omega) (by omega) (by omega) (-1)
      rw [Int.toNat_natCast] at hone
      have hcond : (0 ≤ (m : Int) ∧ (m : Int) ≤ 6) ∧ es.length ≤ 12 ∧ (0 ≤ (x : Int) ∧ (x : Int) < m) ∧ ((List.replicate m (0 : Int)).set x (-1)).length = ((m : Int)).toNat ∧ ∀ e ∈ es, (0 ≤ e.f0 ∧ e.f0 < (m : Int)) ∧ 0 ≤ e.f1 ∧ e.f1 < (m : Int) := by
        refine ⟨⟨by omega, by omega⟩, hG.2.2.1, ⟨by omega, by omega⟩, by rw [List.length_set, List.length_replicate, Int.toNat_natCast], fun e he => ?_⟩
        have := hG.2.2.2 e he
        unfold EOk at this
        omega
      have himpl : ∀ r : List Int, Ep (fun k => impl_ParkingOfTree.wk es tree k (2 ^ x) (List.replicate m 0) (List.replicate es.length false) ((List.replicate m 0).set x (-1))) (· = r) → Ep (fun k => impl_ParkingOfTree.f k (m : Int) es tree (x : Int)) (· = (r, true)) := by
        intro r h
        simp only [impl_ParkingOfTree.f]
        refine Ep.bind (implTree (m : Int) es tree hl) ?_
        rintro _ rfl
        refine Ep.pos ht (Ep.bind0 (within_eq _ _ _) (Ep.pos (by rw [hw]; simpa using hq) (Ep.bind0 hone (Ep.pos hcond ?_))))
        rw [Int.toNat_natCast, Int.toNat_natCast]
        refine Ep.bind h ?_
        rintro _ rfl
        exact Ep.now rfl
      have hspec : ∀ p : List Int × Bool, Ep (fun k => spec_ParkingOfTree.j0 k tree (x : Int) false (m : Int) es) (· = p) → Ep (fun k => spec_ParkingOfTree.f k (m : Int) es tree (x : Int)) (· = p) := by
        intro p h
        simp only [spec_ParkingOfTree.f]
        refine Ep.bind (specTree (m : Int) es tree hl) ?_
        rintro _ rfl
        refine Ep.pos ht (Ep.bind0 (l01In_eq _ _ _) ?_)
        rw [hw, decide_eq_true hq]
        exact h
      by_cases h0 : tree.length = 0
      · have hm : m = 1 := by omega
        subst hm
        have hes0 : es = [] := by
          cases es with
          | nil => rfl
          | cons e es =>
            have := hG.2.2.2 e List.mem_cons_self
            unfold EOk at this
            omega
        subst hes0
        have hx0 : x = 0 := by omega
        subst hx0
        refine ⟨([-1], true), by simp, hspec _ ?_, himpl [-1] ?_⟩
        · refine Ep.up ?_
          simp only [spec_ParkingOfTree.j0]
          exact Ep.neg (by simp) (Ep.pos (by omega) (Ep.now rfl))
        · refine Ep.up ?_
          simp only [impl_ParkingOfTree.wk]
          exact Ep.now rfl
      · have hc : (List.replicate es.length false).count false = es.length := by rw [List.count_replicate_self]
        obtain ⟨r, h1, h2, h3⟩ := park_main (by omega) hG.2.2.2 hG.2.2.1 (tree := tree) (by omega) (by omega) hr hj hx (z := List.replicate m 0) List.length_replicate es.length (2 ^ x) (List.replicate m 0) (List.replicate es.length false) ((List.replicate m 0).set x (-1)) hc (start_inv (by omega) hG.2.2.1 tree hx)
        refine ⟨(r, true), by simp only; omega, hspec _ ?_, himpl r h1⟩
        refine Ep.up ?_
        simp only [spec_ParkingOfTree.j0, spec_l12Walk.f]
        refine Ep.neg (by simp) (Ep.neg (by omega) (Ep.pos (by omega) (Ep.pos (by omega) ?_)))
        have h4 := h3 [] (by simp only [List.length_nil]; have := hG.2.2.1; omega)
        have e : (List.replicate m false).set x true = blB m (2 ^ x) := by rw [← blB_zero, blB_set hx, Nat.zero_or]
        rw [← e] at h4
        refine Ep.bind (P := fun p => p.2 = r) (Ep.pos ⟨⟨by omega, by omega⟩, hG.2.2.1, by omega, by omega⟩ (by rw [Int.toNat_natCast, Int.toNat_natCast]; exact h4)) ?_
        rintro p rfl
        exact Ep.now rfl
    · refine ⟨([], false), by simp, ?_, ?_⟩
      · simp only [spec_ParkingOfTree.f]
        refine Ep.bind (specTree (m : Int) es tree hl) ?_
        rintro _ rfl
        refine Ep.pos ht (Ep.bind0 (l01In_eq _ _ _) ?_)
        rw [hw, decide_eq_false hq]
        exact noE
      · simp only [impl_ParkingOfTree.f]
        refine Ep.bind (implTree (m : Int) es tree hl) ?_
        rintro _ rfl
        exact Ep.pos ht (Ep.bind0 (within_eq _ _ _) (Ep.neg (by rw [hw]; simpa using hq) (Ep.now rfl)))
  · refine ⟨([], false), by simp, ?_, ?_⟩
    · simp only [spec_ParkingOfTree.f]
      refine Ep.bind (specTree n es tree hl) ?_
      rintro _ rfl
      exact Ep.neg ht noE
    · simp only [impl_ParkingOfTree.f]
      refine Ep.bind (implTree n es tree hl) ?_
      rintro _ rfl
      exact Ep.neg ht (Ep.now rfl)
open Classical in
noncomputable def ptO (n : Int) (es : List E) (tree : List Int) (q : Int) : List Int × Bool := if h : tree.length ≤ 1048576 then (park_ex n es tree q h).choose else ([], false)
theorem ptO_len (n : Int) (es : List E) (tree : List Int) (q : Int) : (ptO n es tree q).1.length ≤ 6 := by
  unfold ptO
  by_cases h : tree.length ≤ 1048576
  · rw [dif_pos h]
    exact (park_ex n es tree q h).choose_spec.1
  · rw [dif_neg h]
    exact Nat.zero_le _
theorem specPT (n : Int) (es : List E) (tree : List Int) (q : Int) (hl : tree.length ≤ 1048576) : Ep (fun k => spec_ParkingOfTree.f k n es tree q) (· = ptO n es tree q) := by
  unfold ptO
  rw [dif_pos hl]
  exact (park_ex n es tree q hl).choose_spec.2.1
theorem implPT (n : Int) (es : List E) (tree : List Int) (q : Int) (hl : tree.length ≤ 1048576) : Ep (fun k => impl_ParkingOfTree.f k n es tree q) (· = ptO n es tree q) := by
  unfold ptO
  rw [dif_pos hl]
  exact (park_ex n es tree q hl).choose_spec.2.2
end Go.Proofs.Yteokcodadpjepaa.Cf
end

section
namespace Go.Proofs.Yteokcodadpjepaa.Cf
set_option linter.unusedVariables false
set_option linter.unusedSimpArgs false
open Go.RowKit Go.Proofs.YteokcodadpjepaaW.PrintWords Go.Proofs.Yteokcodadpjepaa.P
def EWf (e : E) : Prop := Wf .i64 e.f0 ∧ Wf .i64 e.f1
theorem rdLE_get {es : List E} {i : Nat} (h : i < es.length) : rd_T85 es (i : Int) = es[i] := by simp [rd_T85, List.getD, h]
theorem szGraph_ok (n : Int) (es : List E) (a : Int) (ha : 0 ≤ a ∧ a ≤ 1048576) (hl : es.length ≤ 9223372036854775807) : ∃ t, laws_szGraph.f n es a = some t ∧ t ≤ 1048576 ∧ (¬ t < 0 → es.length ≤ 1048576) := by
  unfold laws_szGraph.f laws_szEdgeS.f
  rw [wrap_id (by omega) (by omega)]
  by_cases h : a - (es.length : Int) < 0
  · refine ⟨-1, ?_, by omega, by omega⟩
    rw [if_pos h]
    simp
  · refine ⟨a - es.length, ?_, by omega, by omega⟩
    rw [if_neg h]
    simp only [Option.bind_some]
    rw [if_neg h]
theorem toEdgeS_l0 (x0 : List E) (h : x0.length ≤ 1048576) : ∀ (d i : Nat) (x3 : List E), i + d = x0.length → x3.length = x0.length → (∀ j, j < i → x3[j]? = x0[j]?) → Ep (fun k => laws_toEdgeS.l0 k x0 x3 (i : Int)) (· = x0) := by
  intro d
  induction d with
  | zero =>
    intro i x3 hi hl hx
    refine Ep.up ?_
    simp only [laws_toEdgeS.l0]
    refine Ep.neg (by omega) (Ep.now ?_)
    apply List.ext_getElem?
    intro j
    by_cases hj : j < i
    · exact hx j hj
    · rw [List.getElem?_eq_none (by omega), List.getElem?_eq_none (by omega)]
  | succ d ih =>
    intro i x3 hi hl hx
    have hlt : i < x0.length := by omega
    refine Ep.up ?_
    simp only [laws_toEdgeS.l0]
    refine Ep.pos (by omega) (Ep.pos (by omega) ?_)
    rw [rdLE_get hlt, wrap_succ (by omega)]
    refine Ep.bind0 rfl (Ep.pos (by omega) ?_)
    refine ih (i + 1) _ (by omega) (by simpa using hl) ?_
    intro j hj
    rw [Int.toNat_natCast]
    by_cases e : i = j
    · subst e
      rw [List.getElem?_set_self (by omega), List.getElem?_eq_getElem (by omega)]
    · rw [List.getElem?_set_ne e]
      exact hx j (by omega)
theorem toGraph_ok (n : Int) (es : List E) (h : es.length ≤ 1048576) : Ep (fun k => laws_toGraph.f k n es) (· = (n, es)) := by
  simp only [laws_toGraph.f, laws_toEdgeS.f]
  refine Ep.bind (P := (· = es)) (Ep.pos (by omega) (Ep.pos (by simp; omega) ?_)) ?_
  · exact toEdgeS_l0 es h es.length 0 _ (by omega) (by simp) (fun j hj => by omega)
  · rintro _ rfl
    exact Ep.now rfl
theorem eqEdge_ok (a b : Int) : laws_eqEdge.f a b a b = some true := by simp [laws_eqEdge.f]
theorem eqEdgeS_l0 (x : List E) (h : x.length ≤ 1048576) : ∀ (d i : Nat), i + d = x.length → Ep (fun k => laws_eqEdgeS.l0 k x x (i : Int)) (· = true) := by
  intro d
  induction d with
  | zero =>
    intro i hi
    refine Ep.up ?_
    simp only [laws_eqEdgeS.l0]
    exact Ep.neg (by omega) (Ep.now rfl)
  | succ d ih =>
    intro i hi
    refine Ep.up ?_
    simp only [laws_eqEdgeS.l0]
    refine Ep.pos (by omega) (Ep.pos (by omega) (Ep.pos (by omega) ?_))
    rw [wrap_succ (by omega)]
    exact Ep.bind0 (eqEdge_ok _ _) (Ep.pos rfl (ih (i + 1) (by omega)))
theorem eqGraph_ok (n : Int) (es : List E) (h : es.length ≤ 1048576) : Ep (fun k => laws_eqGraph.f k n es n es) (· = true) := by
  simp only [laws_eqGraph.f]
  refine Ep.pos trivial (Ep.bind (P := (· = true)) ?_ ?_)
  · simp only [laws_eqEdgeS.f]
    exact Ep.pos trivial (eqEdgeS_l0 es h es.length 0 (by omega))
  · rintro _ rfl
    exact Ep.pos rfl (Ep.now rfl)
theorem markEdgeS_l0 (n : Nat) (hn : n ≤ 1048576) {B : Int} (hB : B ≤ 1099511627776) : ∀ (d i : Nat) (x : List E) (a : Int), i + d = n → x.length = n → 0 ≤ a → a + 2 * d ≤ B → Ep (fun k => laws_markEdgeS.l0 k x a (i : Int)) (fun r => 0 ≤ r.1 ∧ r.1 ≤ B) := by
  intro d
  induction d with
  | zero =>
    intro i x a hi hx h0 ha
    refine Ep.up ?_
    simp only [laws_markEdgeS.l0]
    exact Ep.neg (by omega) (Ep.now ⟨h0, by omega⟩)
  | succ d ih =>
    intro i x a hi hx h0 ha
    refine Ep.up ?_
    simp only [laws_markEdgeS.l0]
    refine Ep.pos (by omega) (Ep.pos (by omega) (Ep.bind0 rfl ?_))
    rw [wrap_succ (by omega), wrap_id (x := a + 1) (by omega) (by omega), wrap_id (x := a + 1 + 1) (by omega) (by omega)]
    exact ih (i + 1) _ _ (by omega) (by simpa using hx) (by omega) (by omega)
theorem markGraph_ok (n : Int) (es : List E) (a : Int) (h : es.length ≤ 1048576) (ha : 0 ≤ a ∧ a ≤ 1000) : Ep (fun k => laws_markGraph.f k n es a) (fun r => 0 ≤ r.1 ∧ r.1 ≤ 3000000) := by
  have := markEdgeS_l0 es.length h (B := 3000000) (by omega) es.length 0 es a (by omega) rfl ha.1 (by omega)
  simp only [laws_markGraph.f, laws_markEdgeS.f]
  refine Ep.bind this ?_
  intro r hr
  exact Ep.now hr
theorem law_FnExactParkingOfTree (n : Int) (es : List E) (l : List Int) (q : Int) (hn : Wf .i64 n) (hes : SL EWf es) (wl : SL (Wf .i64) l) (wq : Wf .i64 q) : Ep (fun k => laws_FnExactParkingOfTree.f k n es l q) (· = true) := by
  have hr0 : ((ptO n es l q).1).length ≤ 1048576 := by have := ptO_len n es l q; omega
  simp only [laws_FnExactParkingOfTree.f]
  refine Ep.ite (fun _ => Ep.now rfl) (fun hcl => ?_)
  have hl : l.length ≤ 1048576 := by omega
  obtain ⟨t, ht, _, h2⟩ := szGraph_ok n es 1048576 (by omega) hes.1
  refine Ep.bind0 ht (Ep.ite (fun _ => Ep.now rfl) (fun hc2 => ?_))
  have hel := h2 hc2
  repeat (first
    | exact Ep.now rfl
    | (refine Ep.bind (toGraph_ok _ _ hel) ?_; rintro _ rfl)
    | (refine Ep.bind (eqGraph_ok _ _ hel) ?_; rintro _ rfl)
    | (refine Ep.bind (toIntS_ok _ hl) ?_; rintro _ rfl)
    | (refine Ep.bind (eqIntS_ok _ hr0) ?_; rintro _ rfl)
    | (refine Ep.bind (eqIntS_ok _ hl) ?_; rintro _ rfl)
    | (refine Ep.bind (specPT _ _ _ _ hl) ?_; rintro _ rfl)
    | (refine Ep.bind (implPT _ _ _ _ hl) ?_; rintro _ rfl)
    | (refine Ep.bind (heldIntS_ok _ _ hr0 (by first | omega | (simp; omega))) ?_; rintro _ rfl)
    | (refine Ep.bind (markIntS_ok _ _ hr0 (by first | omega | (simp; omega))) ?_; rintro _ rfl)
    | (refine Ep.bind (markIntS_ok _ _ hl (by first | omega | (simp; omega))) ?_; rintro _ rfl)
    | (refine Ep.bind (markGraph_ok _ _ 1 hel (by omega)) ?_; intro r hr0_)
    | refine Ep.pos rfl ?_
    | refine Ep.pos trivial ?_
    | refine Ep.neg (by simp; omega) ?_
    | refine Ep.neg (by omega) ?_
    | refine Ep.neg (by simp) ?_
    | (refine Ep.up ?_; simp only [laws_FnExactParkingOfTree.j0])
    | (refine Ep.up ?_; simp only [laws_FnExactParkingOfTree.j1])
    | (refine Ep.up ?_; simp only [laws_FnExactParkingOfTree.j2]))
end Go.Proofs.Yteokcodadpjepaa.Cf
end

section
namespace Go.Proofs.Yteokcodadpjepaa.Cf
set_option linter.unusedVariables false
set_option linter.unusedSimpArgs false
open Go.RowKit Go.ChangeShapes Go.WideShapes Go.Deep Go.Joins Go.Proofs.YteokcodadpjepaaW.PrintWords
section
variable {H : Type} {enc : TypeId × Value → H} {P : Program} {w : World} {base : Nat} {spare : Nat → Bool} {held : Bool}
/-- A slice, whatever its elements are, if each of them can be told. -/
theorem trod_C {α : Type} {d : Kd α} {Q : α → Prop} (hd : Inhabited α) {t e : TypeId} {fuel : Nat} {cs : List Value} {x : DataW H × List MemPlace} (ht : P.underlying t = some (.slice e)) (hsz : P.cellsOf e = d.sz)
    (hel : ∀ (n : Nat) (cs : List Value) (y : DataW H × List MemPlace), DataW.trod enc P w base spare held n e cs = some y → ∃ a : α, d.K w a cs ∧ Q a)
    (h : DataW.trod enc P w base spare held fuel t cs = some x) : ∃ A len cap xs, cs = [.slice A len cap] ∧ xs.length = len ∧ len ≤ cap ∧ Kd.C d w A len xs ∧ SL Q xs := by
  rcases open_slice ht h with ⟨rfl, _⟩ | ⟨a, len, cap, m, n, D, Pl, rfl, _, hl, hm, hmm, _, hx⟩
  · exact ⟨none, 0, 0, [], rfl, rfl, Nat.le_refl _, ⟨rfl, by omega, fun hn => by omega⟩, by simp, fun x hx => by cases hx⟩
  · have hlm : len ≤ m := by rw [hmm]; split <;> omega
    obtain ⟨X, hX⟩ := choose_lt (α := α) (n := len) (p := fun i z => Q z ∧ ∃ c, c.length = d.sz ∧ d.K w z c ∧ ∀ j u, c[j]? = some u → w.cell? (a.add (i * d.sz + j)) = some u) (fun i hi => by
      obtain ⟨cs', h1, h2⟩ := hx i (by omega)
      obtain ⟨z, hz, hq⟩ := hel n cs' _ h2
      obtain ⟨_, hlen, hc⟩ := World.cells?_some h1
      refine ⟨z, hq, cs', by rw [hlen, hsz], hz, fun j u hj => ?_⟩
      have hjl : j < cs'.length := by
        apply Classical.byContradiction
        intro hc
        rw [List.getElem?_eq_none (by omega)] at hj
        cases hj
      have := hc j (by omega)
      rw [Deep.add_add, hsz] at this
      rw [this, hj])
    refine ⟨some a, len, cap, (List.range len).map X, rfl, by simp, hl, ⟨by simp, ?_, fun _ => ⟨a, rfl, fun j p hj => ?_⟩⟩, by simp; unfold maxLen at hm; omega, fun x hx => ?_⟩
    · unfold maxLen at hm
      omega
    · have hjl : j < len := by
        apply Classical.byContradiction
        intro hc
        rw [List.getElem?_eq_none (by simp; omega)] at hj
        cases hj
      have : p = X j := by
        rw [List.getElem?_eq_getElem (by simpa using hjl)] at hj
        simpa using hj.symm
      subst this
      exact (hX j hjl).2
    · obtain ⟨i, hi, rfl⟩ := List.mem_map.1 hx
      exact (hX i (List.mem_range.1 hi)).1
theorem el_int {k : IntKind} {e : TypeId} (he : P.underlying e = some (.int k)) : ∀ (n : Nat) (cs : List Value) (y : DataW H × List MemPlace), DataW.trod enc P w base spare held n e cs = some y → ∃ a : Int, (Kd.int k).K w a cs ∧ Wf k a := by
  intro n cs y h
  obtain ⟨a, rfl, _, hw⟩ := DataW.trod_int he h
  exact ⟨a, rfl, hw⟩
/-- A struct of two numbers. -/
theorem el_pair {k0 k1 : IntKind} {e : TypeId} {f0 f1 : Field} (he : P.underlying e = some (.struct #[f0, f1])) (ce : P.cellsOf e = 2) (o0 : f0.offset = 0) (o1 : f1.offset = 1) (c0 : P.cellsOf f0.type = 1) (c1 : P.cellsOf f1.type = 1)
    (u0 : P.underlying f0.type = some (.int k0)) (u1 : P.underlying f1.type = some (.int k1)) :
    ∀ (n : Nat) (cs : List Value) (y : DataW H × List MemPlace), DataW.trod enc P w base spare held n e cs = some y → ∃ a b : Int, cs = [.int k0 a, .int k1 b] ∧ Wf k0 a ∧ Wf k1 b := by
  intro n cs y h
  obtain ⟨y0, y1, m, _, hl, h0, h1⟩ := trod_struct2 he h
  rw [ce] at hl
  rw [o0, c0] at h0
  rw [o1, c1] at h1
  match cs, hl with
  | [a, b], _ =>
    obtain ⟨x, hx, _, wx⟩ := DataW.trod_int u0 h0
    obtain ⟨z, hz, _, wz⟩ := DataW.trod_int u1 h1
    simp at hx hz
    subst hx; subst hz
    exact ⟨x, z, rfl, wx, wz⟩
/-- A slice that comes in. -/
theorem arg_slice {α : Type} {d : Kd α} {Q : α → Prop} (hd : Inhabited α) {t e : TypeId} {a : Option Addr} {len cap : Nat} {x : DataW H} {ps : List MemPlace} (ht : P.underlying t = some (.slice e)) (hsz : P.cellsOf e = d.sz)
    (hel : ∀ (n : Nat) (cs : List Value) (y : DataW H × List MemPlace), DataW.trod enc P w base spare held n e cs = some y → ∃ a : α, d.K w a cs ∧ Q a)
    (h : DataW.Trod enc P w base spare held t (.slice a len cap) x ps) : ∃ xs : List α, xs.length = len ∧ len ≤ cap ∧ Kd.C d w a len xs ∧ SL Q xs := by
  obtain ⟨fuel, hf⟩ := h
  obtain ⟨A, l, c, xs, hcs, hl, hc, hC, hq⟩ := trod_C hd ht hsz hel hf
  simp [Value.cells] at hcs
  obtain ⟨rfl, rfl, rfl⟩ := hcs
  exact ⟨xs, hl, hc, hC, hq⟩
/-- A struct of a number and a slice that comes in. -/
theorem arg_graph {α : Type} {d : Kd α} {Q : α → Prop} (hd : Inhabited α) {r : Reach} {b0 : Nat} {t e : TypeId} {f0 f1 : Field} {v : Value} {x : DataW H} {p : List MemPlace} (hs : P.underlying t = some (.struct #[f0, f1])) (hone : oneCellFields P #[f0, f1] = true) (hC : P.cellsOf t = 2)
    (u0 : P.underlying f0.type = some (.int .i64)) (u1 : P.underlying f1.type = some (.slice e)) (hsz : P.cellsOf e = d.sz)
    (hel : ∀ (n : Nat) (cs : List Value) (y : DataW H × List MemPlace), DataW.trod enc P w base spare held n e cs = some y → ∃ a : α, d.K w a cs ∧ Q a)
    (hv : Value.okWide P w r b0 t v) (h : DataW.Trod enc P w base spare held t v x p) : ∃ n a len cap, ∃ xs : List α, v = .agg #[.int .i64 n, .slice a len cap] ∧ Wf .i64 n ∧ xs.length = len ∧ len ≤ cap ∧ Kd.C d w a len xs ∧ SL Q xs := by
  obtain ⟨v0, v1, y0, y1, m, rfl, _, _, h0, h1⟩ := open_agg2 hs hone hC hv h
  obtain ⟨n, hn, _, hw⟩ := DataW.trod_int u0 h0
  obtain ⟨A, len, cap, xs, hcs, hl, hc, hx, hq⟩ := trod_C hd u1 hsz hel h1
  simp at hn hcs
  subst hn; subst hcs
  exact ⟨n, A, len, cap, xs, rfl, hw, hl, hc, hx, hq⟩
end
end Go.Proofs.Yteokcodadpjepaa.Cf
end

section
namespace Go.Proofs.Yteokcodadpjepaa.Cf
theorem and2 {a b : Bool} (h : a = true) (k : b = true) : (a && b) = true := by rw [h, k]; rfl
theorem iniS : Try.prog.initOrder.toList = ['h', 'a', 'r', 'n', 'e', 's', 's', ' ', '3', 'b', '5', '8', '0', '4', '1', 'e', '2', 'c', '0', '9', '4', '3', 'c', '3', '4', '3', '1', '8', 'd', '6', '7', '5', 'a', '3', 'b', '2', '1', 'f', '9', 'e', '4', 'c', '1', '5', 'a', 'f', '0', '8', 'f', 'c', 'a', 'd', 'b', 'b', 'f', '4', '3', '7', '8', '1', '2', '7', 'b', '0', '4', '2', '3', 'd', 'c', '4', 'b', '6', ' ', 'c', 'u', 't', ' ', 'a', 't', ' ', 'l', 'o', 'o', 'p', '.', 'e', 'x', 'a', 'm', 'p', 'l', 'e', '/', 'g', '0', '0', '8', '4', '1', '/', 'l', 'a', 'w', 's', '.', 'F', 'n', 'E', 'x', 'a', 'c', 't', 'P', 'a', 'r', 'k', 'i', 'n', 'g', 'O', 'f', 'T', 'r', 'e', 'e', ' ', 'l', 'o', 'o', 'p', '.', 'e', 'x', 'a', 'm', 'p', 'l', 'e', '/', 'g', '0', '0', '8', '4', '1', '/', 'l', 'a', 'w', 's', '.', 'F', 'n', 'E', 'x', 'a', 'c', 't', 'T', 'r', 'e', 'e', 'O', 'f', 'P', 'a', 'r', 'k', 'i', 'n', 'g', ' ', 'l', 'o', 'o', 'p', '.', 'e', 'x', 'a', 'm', 'p', 'l', 'e', '/', 'g', '0', '0', '8', '4', '1', '/', 'l', 'a', 'w', 's', '.', 'F', 'n', 'E', 'x', 'a', 'c', 't', 'P', 'a', 'r', 'k', 'i', 'n', 'g', 's', 'O', 'f', ' ', 'l', 'o', 'o', 'p', '.', 'e', 'x', 'a', 'm', 'p', 'l', 'e', '/', 'g', '0', '0', '8', '4', '1', '/', 'l', 'a', 'w', 's', '.', 'F', 'n', 'P', 'a', 'r', 'k', 'i', 'n', 'g'] := by
  have h : Try.prog.initOrder = String.ofList ['h', 'a', 'r', 'n', 'e', 's', 's', ' ', '3', 'b', '5', '8', '0', '4', '1', 'e', '2', 'c', '0', '9', '4', '3', 'c', '3', '4', '3', '1', '8', 'd', '6', '7', '5', 'a', '3', 'b', '2', '1', 'f', '9', 'e', '4', 'c', '1', '5', 'a', 'f', '0', '8', 'f', 'c', 'a', 'd', 'b', 'b', 'f', '4', '3', '7', '8', '1', '2', '7', 'b', '0', '4', '2', '3', 'd', 'c', '4', 'b', '6', ' ', 'c', 'u', 't', ' ', 'a', 't', ' ', 'l', 'o', 'o', 'p', '.', 'e', 'x', 'a', 'm', 'p', 'l', 'e', '/', 'g', '0', '0', '8', '4', '1', '/', 'l', 'a', 'w', 's', '.', 'F', 'n', 'E', 'x', 'a', 'c', 't', 'P', 'a', 'r', 'k', 'i', 'n', 'g', 'O', 'f', 'T', 'r', 'e', 'e', ' ', 'l', 'o', 'o', 'p', '.', 'e', 'x', 'a', 'm', 'p', 'l', 'e', '/', 'g', '0', '0', '8', '4', '1', '/', 'l', 'a', 'w', 's', '.', 'F', 'n', 'E', 'x', 'a', 'c', 't', 'T', 'r', 'e', 'e', 'O', 'f', 'P', 'a', 'r', 'k', 'i', 'n', 'g', ' ', 'l', 'o', 'o', 'p', '.', 'e', 'x', 'a', 'm', 'p', 'l', 'e', '/', 'g', '0', '0', '8', '4', '1', '/', 'l', 'a', 'w', 's', '.', 'F', 'n', 'E', 'x', 'a', 'c', 't', 'P', 'a', 'r', 'k', 'i', 'n', 'g', 's', 'O', 'f', ' ', 'l', 'o', 'o', 'p', '.', 'e', 'x', 'a', 'm', 'p', 'l', 'e', '/', 'g', '0', '0', '8', '4', '1', '/', 'l', 'a', 'w', 's', '.', 'F', 'n', 'P', 'a', 'r', 'k', 'i', 'n', 'g'] := by kernel_rfl
  exact (congrArg String.toList h).trans String.toList_ofList
theorem iniW : behindMainWord (wordsSigns Try.prog.initOrder.toList) = [['c', 'u', 't'], ['a', 't'], ['l', 'o', 'o', 'p', '.', 'e', 'x', 'a', 'm', 'p', 'l', 'e', '/', 'g', '0', '0', '8', '4', '1', '/', 'l', 'a', 'w', 's', '.', 'F', 'n', 'E', 'x', 'a', 'c', 't', 'P', 'a', 'r', 'k', 'i', 'n', 'g', 'O', 'f', 'T', 'r', 'e', 'e'], ['l', 'o', 'o', 'p', '.', 'e', 'x', 'a', 'm', 'p', 'l', 'e', '/', 'g', '0', '0', '8', '4', '1', '/', 'l', 'a', 'w', 's', '.', 'F', 'n', 'E', 'x', 'a', 'c', 't', 'T', 'r', 'e', 'e', 'O', 'f', 'P', 'a', 'r', 'k', 'i', 'n', 'g'], ['l', 'o', 'o', 'p', '.', 'e', 'x', 'a', 'm', 'p', 'l', 'e', '/', 'g', '0', '0', '8', '4', '1', '/', 'l', 'a', 'w', 's', '.', 'F', 'n', 'E', 'x', 'a', 'c', 't', 'P', 'a', 'r', 'k', 'i', 'n', 'g', 's', 'O', 'f'], ['l', 'o', 'o', 'p', '.', 'e', 'x', 'a', 'm', 'p', 'l', 'e', '/', 'g', '0', '0', '8', '4', '1', '/', 'l', 'a', 'w', 's', '.', 'F', 'n', 'P', 'a', 'r', 'k', 'i', 'n', 'g']] := (congrArg (fun x => behindMainWord (wordsSigns x)) iniS).trans (by kernel_rfl)
theorem mk_cut {P : Program} {r : List (List Char)} (h : behindMainWord (wordsSigns P.initOrder.toList) = ['c', 'u', 't'] :: r) : P.make = some .cut := by
  unfold Program.make
  rw [h]
  rfl
theorem lf_cut {P : Program} {r : List (List Char)} (h : behindMainWord (wordsSigns P.initOrder.toList) = ['c', 'u', 't'] :: r) (k : (stripLifts liftWords (['c', 'u', 't'] :: r)).1 = []) : P.liftsFinal = false := by
  unfold Program.liftsFinal Program.headLifts
  rw [h]
  simp [k]
theorem en_cut {P : Program} {r : List (List Char)} (h : behindMainWord (wordsSigns P.initOrder.toList) = ['c', 'u', 't'] :: r) (k1 : (stripLifts liftWords (['c', 'u', 't'] :: r)).1 = []) (k2 : ((stripLifts liftWords (['c', 'u', 't'] :: r)).2.head? == some "cut".toList) = true) (h1 : P.laysLater = false) (h2 : P.bearsReflect = false) (h3 : P.doorFits [] = true) : P.mayEnter = true := by
  unfold Program.mayEnter
  rw [h]
  simp only [k1, k2, h1, h2, h3]
  simp
theorem make : Try.prog.make = some .cut := mk_cut iniW
theorem lifted : Try.prog.liftsFinal = false := lf_cut iniW (by kernel_rfl)
theorem enter : Try.prog.mayEnter = true := en_cut iniW (by kernel_rfl) (by kernel_rfl) (by kernel_rfl) (by kernel_rfl) (by kernel_rfl)
end Go.Proofs.Yteokcodadpjepaa.Cf
end

