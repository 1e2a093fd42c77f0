/- A part of the proof of FnExactClassesOf. -/
import Derived.Test.YtnbljcgdgblgoaaBFnExactClassesOf1
import Derived.Test.YtnbljcgdgblgoaaBFnExactClassesOf0
import Derived.Deep.LoopGhost
import Derived.Test.YtnbljcgdgblgoaaBFnExactClassesOfWWords
import Derived.Test.YtnbljcgdgblgoaaBFnExactClassesOfWMore
import Derived.Laws.BitsLemmas
import Derived.StillTailTactics
import Derived.Deep.RegionLaw
import Derived.Lib.Walk
import Derived.Lib.SliceRun
set_option maxHeartbeats 16000000
set_option maxRecDepth 1000000
section
namespace Go.Proofs.Ytnbljcgdgblgoaa.P
open Go.RowKit Go.Proofs.YtnbljcgdgblgoaaW.PrintWords Go.Proofs.YtnbljcgdgblgoaaW.PrintLast Go.Proofs.YtnbljcgdgblgoaaW.PrintMore
attribute [local go_sem] max2_int min2_int max_two min_two max_three min_three max_four min_four
set_option linter.unusedVariables false
set_option linter.unusedSimpArgs false
def spec_l09Boxes.T5 : Bool × List (List Nat × List Nat) := (true, [([], []), ([], []), ([0, 1], [0, 1]), ([2], [2]), ([], []), ([4], [4]), ([3, 5], [3, 5])])
def spec_l09Boxes.B5 : List Nat := [0, 0, 3, 7, 0, 16, 63]
theorem spec_l09Boxes.tab5 : rtab .any (opsOf Try.f63 5) = spec_l09Boxes.T5 := by kernel_rfl
theorem spec_l09Boxes.bits5 : waitsOk spec_l09Boxes.T5.2 spec_l09Boxes.B5 = true := by kernel_rfl
def spec_l09Boxes.T11 : Bool × List (List Nat × List Nat) := (true, [([], []), ([], []), ([], []), ([1, 2], [1, 2]), ([], []), ([4], [4]), ([3, 5, 3], [3, 5]), ([], []), ([0, 6, 7, 6], [0, 6, 7]), ([8, 8, 0, 1, 2, 3, 4, 5, 6, 7, 8], [7, 8])])
def spec_l09Boxes.B11 : List Nat := [0, 0, 0, 6, 0, 16, 62, 0, 255, 511]
theorem spec_l09Boxes.tab11 : rtab .any (opsOf Try.f63 11) = spec_l09Boxes.T11 := by kernel_rfl
theorem spec_l09Boxes.bits11 : waitsOk spec_l09Boxes.T11.2 spec_l09Boxes.B11 = true := by kernel_rfl
def spec_l09Boxes.cnt (k : Nat) (a0 : Int) (es : List S57) (v : Nat) : Nat := (mx 1 ((spec_Valence.f k a0 es (v : Int)).getD 0)).toNat
def spec_l09Boxes.lf (k : Nat) (x : List Int) : List Int := x.set 0 (wrap64 (-((spec_DegreeOf.f k (x.drop 1)).getD 0)))
def spec_l09Boxes.pr (k : Nat) (a0 : Int) (es : List S57) (x : List Int) : Bool := match spec_l05Burn.f k a0 es x 0 with | some r => decide ((r.length : Int) = a0) | none => false
abbrev spec_l09Boxes.ok0 (k : Nat) (a0 : Int) (es : List S57) : Prop := (1 ≤ a0 ∧ a0 ≤ 6) ∧ ∀ v, v < a0.toNat → (spec_Valence.f k a0 es (v : Int)).isSome = true ∧ 0 ≤ (spec_Valence.f k a0 es (v : Int)).getD 0 ∧ (spec_Valence.f k a0 es (v : Int)).getD 0 ≤ 24
abbrev spec_l09Boxes.ok1 (k : Nat) (a0 : Int) (es : List S57) : Prop := ∀ x ∈ Cf.dfsB (spec_l09Boxes.cnt k a0 es) (a0.toNat - 1) 1 [0], (spec_DegreeOf.f k (x.drop 1)).isSome = true ∧ (spec_l05Burn.f k a0 es (spec_l09Boxes.lf k x) 0).isSome = true
def spec_l09Boxes.f (k : Nat) (a0 : Int) (es : List S57) : Option (List (List Int)) := if spec_l09Boxes.ok0 k a0 es ∧ spec_l09Boxes.ok1 k a0 es then some (((Cf.dfsB (spec_l09Boxes.cnt k a0 es) (a0.toNat - 1) 1 [0]).map (spec_l09Boxes.lf k)).filter fun x => spec_l09Boxes.pr k a0 es x) else none
theorem spec_l09Boxes.val_up (k : Nat) {a0 : Int} {es : List S57} {v : Int} (h : (spec_Valence.f k a0 es v).isSome = true) : spec_Valence.f (k + 1) a0 es v = spec_Valence.f k a0 es v := by
 obtain ⟨b, hb⟩ := Option.isSome_iff_exists.1 h; rw [hb, spec_Valence.mono _ _ _ k _ hb]
theorem spec_l09Boxes.burn_up (k : Nat) {a0 : Int} {es : List S57} {x : List Int} (h : (spec_l05Burn.f k a0 es x 0).isSome = true) : spec_l05Burn.f (k + 1) a0 es x 0 = spec_l05Burn.f k a0 es x 0 := by
 obtain ⟨b, hb⟩ := Option.isSome_iff_exists.1 h; rw [hb, spec_l05Burn.mono _ _ _ _ k _ hb]
theorem spec_l09Boxes.deg_up (k : Nat) {x : List Int} (h : (spec_DegreeOf.f k x).isSome = true) : spec_DegreeOf.f (k + 1) x = spec_DegreeOf.f k x := by
 obtain ⟨b, hb⟩ := Option.isSome_iff_exists.1 h; rw [hb, spec_DegreeOf.mono _ k _ hb]
theorem spec_l09Boxes.lf_up (k : Nat) {x : List Int} (h : (spec_DegreeOf.f k (x.drop 1)).isSome = true) : spec_l09Boxes.lf (k + 1) x = spec_l09Boxes.lf k x := by unfold spec_l09Boxes.lf; rw [spec_l09Boxes.deg_up k h]
theorem spec_l09Boxes.dfs_congr {c d : Nat → Nat} : ∀ (r v : Nat) (s : List Int), (∀ u, v ≤ u → u < v + r → c u = d u) → Cf.dfsB c r v s = Cf.dfsB d r v s
 | 0, _, _, _ => rfl
 | r + 1, v, s, h => by
  show (Cf.extB (c v) s).flatMap (Cf.dfsB c r (v + 1)) = (Cf.extB (d v) s).flatMap (Cf.dfsB d r (v + 1))
  rw [h v (Nat.le_refl _) (by omega), show Cf.dfsB c r (v + 1) = Cf.dfsB d r (v + 1) from funext fun t => spec_l09Boxes.dfs_congr r (v + 1) t fun u h1 h2 => h u (by omega) (by omega)]
theorem spec_l09Boxes.dfs_len {c : Nat → Nat} {b : Nat} : ∀ (r v : Nat) (s : List Int), (∀ u, v ≤ u → u < v + r → c u ≤ b) → (Cf.dfsB c r v s).length ≤ b ^ r
 | 0, _, _, _ => Nat.le_refl _
 | r + 1, v, s, h => by
  have key : ∀ M : List (List Int), (M.flatMap (Cf.dfsB c r (v + 1))).length ≤ M.length * b ^ r := by
   intro M
   induction M with
   | nil => simp
   | cons x M ih =>
    rw [List.flatMap_cons, List.length_append, List.length_cons, Nat.add_mul, Nat.one_mul]; (have := spec_l09Boxes.dfs_len (c := c) (b := b) r (v + 1) x fun u h1 h2 => h u (by omega) (by omega)); omega
  refine Nat.le_trans (key (Cf.extB (c v) s)) ?_; rw [Cf.extB_len, Nat.pow_succ, Nat.mul_comm]; exact Nat.mul_le_mul_left _ (h v (Nat.le_refl _) (by omega))
theorem spec_l09Boxes.mono : ∀ a0 a1 k, LeO (spec_l09Boxes.f k a0 a1) (spec_l09Boxes.f (k + 1) a0 a1) := by
 intro a0 es k r h; unfold spec_l09Boxes.f at h ⊢; (split at h); (case isFalse => cases h); rename_i hc; have hn : (1 : Int) ≤ a0 := hc.1.1.1; (have e1 : Cf.dfsB (spec_l09Boxes.cnt (k + 1) a0 es) (a0.toNat - 1) 1 [0] = Cf.dfsB (spec_l09Boxes.cnt k a0 es) (a0.toNat - 1) 1 [0] := spec_l09Boxes.dfs_congr _ _ _ fun v _ hv => by unfold spec_l09Boxes.cnt; rw [spec_l09Boxes.val_up k (hc.1.2 v (by omega)).1]); have h0 : spec_l09Boxes.ok0 (k + 1) a0 es := ⟨hc.1.1, fun v hv => by rw [spec_l09Boxes.val_up k (hc.1.2 v hv).1]; exact hc.1.2 v hv⟩; (have h1 : spec_l09Boxes.ok1 (k + 1) a0 es := by unfold spec_l09Boxes.ok1; rw [e1]; exact fun x hx => by rw [spec_l09Boxes.lf_up k (hc.2 x hx).1, spec_l09Boxes.deg_up k (hc.2 x hx).1, spec_l09Boxes.burn_up k (hc.2 x hx).2]; exact hc.2 x hx); rw [if_pos ⟨h0, h1⟩, ← h, e1, List.map_congr_left fun x hx => spec_l09Boxes.lf_up k (hc.2 x hx).1]; (congr 1); (refine List.filter_congr fun y hy => ?_); obtain ⟨x, hx, rfl⟩ := List.mem_map.1 hy; unfold spec_l09Boxes.pr; rw [spec_l09Boxes.burn_up k (hc.2 x hx).2]
theorem spec_l09Boxes.pick (k n : Nat) (A0 : Option Addr) (c0 : Nat) (es : List S57) (w0 : World) (hn : n ≤ 6) (hE : Kd.C k57 w0 A0 es.length es) (hc0 : es.length ≤ c0) (hV : ∀ v, v < n → (spec_Valence.f k (n : Int) es (v : Int)).isSome = true ∧ 0 ≤ (spec_Valence.f k (n : Int) es (v : Int)).getD 0 ∧ (spec_Valence.f k (n : Int) es (v : Int)).getD 0 ≤ 24) :
  ∀ (r : Nat) (s : List Int) (okP ok : Nat → Prop) (As : Option Addr) (cs : Nat) (u : Value) (out : List (List Int)) (w : World), s.length + r = n → 0 < s.length → (∀ t ∈ Cf.dfsB (spec_l09Boxes.cnt k (n : Int) es) r s.length s, (spec_DegreeOf.f k (t.drop 1)).isSome = true ∧ (spec_l05Burn.f k (n : Int) es ((spec_l09Boxes.lf k) t) 0).isSome = true) → Kd.R (Kd.int .i64) 3 w w0.heap.size okP (.slice As s.length cs) s → (∀ k_, okP k_ → ¬ ok k_) → (∀ k_, w.heap.size ≤ k_ → ok k_) → Kd.S (Kd.slice 3 (Kd.int .i64)) 26 w w0.heap.size ok u out → Below w0.heap.size w0 w → out.length + (Cf.dfsB (spec_l09Boxes.cnt k (n : Int) es) r s.length s).length ≤ 200000000 →
  Calls Try.prog 63 #[.agg #[.int .i64 (n : Int), .slice A0 es.length c0], .slice As s.length cs, u] w fun e w' => (∃ v, e = .returned v ∧ Kd.S (Kd.slice 3 (Kd.int .i64)) 26 w' w0.heap.size ok v (out ++ ((Cf.dfsB (spec_l09Boxes.cnt k (n : Int) es) r s.length s).map (spec_l09Boxes.lf k)).filter (spec_l09Boxes.pr k (n : Int) es))) ∧ Below w0.heap.size w0 w' ∧ Kept w w' ok := by
 have hu25 := Try.underlying25; have HE := Aside0.mk hE; have HC := Aside0.mk hc0; have HN := Aside0.mk hn; have HV := Aside0.mk hV; clear hE hc0 hn hV; intro r
 induction r with
 | zero =>
  intro s okP ok As cs u out w hlen hpos hans hP hdis hfr hS hB hL; have HLEN := Aside0.mk hlen; have HPOS := Aside0.mk hpos; have HANS := Aside0.mk hans; have HP := Aside0.mk hP; have HDIS := Aside0.mk hdis; have HFR := Aside0.mk hfr; have HS := Aside0.mk hS; have HB := Aside0.mk hB; have HL := Aside0.mk hL; (have hsb : (s.length : Int) ≤ 6 := by have := HN.out; omega); (have hsn : s.length = n := by have := HLEN.out; omega); have c0_ : ((s.length : Int) == (n : Int)) = true := beq_iff_eq.2 (by omega); obtain ⟨hdg0, hbr0⟩ := HANS.out s (by simp [Cf.dfsB]); obtain ⟨dg, hdg⟩ := Option.isSome_iff_exists.1 hdg0; (have hds : (spec_l09Boxes.lf k) s = s.set 0 (wrap64 (-dg)) := by unfold spec_l09Boxes.lf; rw [hdg]; rfl); obtain ⟨d, hlf⟩ : ∃ d, (spec_l09Boxes.lf k) s = d := ⟨_, rfl⟩; rw [hlf] at hbr0; obtain ⟨b, hb0⟩ := Option.isSome_iff_exists.1 hbr0; have HBR := Aside0.mk hb0; have HDG := Aside0.mk hdg; have HDS := Aside0.mk (hlf.symm.trans hds); have HDL := Aside0.mk (show d.length = s.length from by rw [HDS.out, List.length_set]); (have hdf : ((Cf.dfsB (spec_l09Boxes.cnt k (n : Int) es) 0 s.length s).map (spec_l09Boxes.lf k)).filter (spec_l09Boxes.pr k (n : Int) es) = if (spec_l09Boxes.pr k (n : Int) es) d = true then [d] else [] := by show [(spec_l09Boxes.lf k) s].filter _ = _; rw [hlf, List.filter_cons, List.filter_nil]); rw [hdf]; (have hpr : (spec_l09Boxes.pr k (n : Int) es) d = decide ((b.length : Int) = (n : Int)) := by unfold spec_l09Boxes.pr; rw [hb0]); rw [hpr]; obtain ⟨y, hy⟩ : ∃ y, y = s.drop 1 := ⟨_, rfl⟩; have HY := Aside0.mk hy; have HDY := Aside0.mk (show spec_DegreeOf.f k y = some dg from by rw [hy]; exact HDG.out); (have q1 : (1 : Int) ≤ (s.length : Int) := by have := HPOS.out; omega); (have q0 : (0 : Int) < (s.length : Int) := by have := HPOS.out; omega); clear hlen hpos hans hP hdis hfr hS hB hL hb0 hdf hpr hsn hdg hdg0 hbr0 hds hlf hy; go_enter Try.func63, Try.ntmps63; (go_wp2_with (first | ((with_reducible refine gate_dst (N := 3) rfl ?_); refine box_event ?hg (N := 3) ?hd (cs := #[.int .i64 (n : Int), .slice A0 es.length c0]) (t := 25) ?hr ?_; (case hd => rfl); (case hg => rfl); (case hr => exact zz9); intro gb hg w1 hbox hb; have HGB := Aside0.mk hg; have BG1 := Aside0.mk hbox; have HB1 := Aside0.mk hb; have hz0 : w1.cell? ⟨gb, 0, none⟩ = some (.int .i64 (n : Int)) := (blk_cell BG1.out 0).trans rfl; have hz1 : w1.cell? ⟨gb, 1, none⟩ = some (.slice A0 es.length c0) := (blk_cell BG1.out 1).trans rfl; clear hg hbox hb; have HRi := Aside0.mk (Kd.R_reads' (Kd.R_below HP.out HB1.out))) | ((with_reducible refine gate_dst (N := 16) rfl ?_); refine Kd.R_lit (w0 := w1) (Kd.int .i64) w1.heap.size 3 ?hg (N := 16) ?hd (xs := ([] : List Int)) (inner := []) (ok := fun _ => True) (okp := fun _ => True) ?hr ?hp (fun _ hk => hk) trivial (Below.refl _ _) (Nat.le_refl _) (by simp) ?_; (case hd => rfl); (case hg => rfl); (case hr => exact zz9); (case hp => exact (Reps.none _ _)); intro vA wA ho hb hg_ hnew_; have HOA := Aside0.mk ho; have HBA := Aside0.mk hb; clear ho hb hg_ hnew_) | ((with_reducible refine gate_builtin (b := .append) (xs := #[.tmp 16, .tmp 17]) rfl ?_); at_builtin; refine Kd.R_append_rows (Kd.int .i64) (w0 := w1) w1.heap.size rfl (.tmp 16) (.tmp 17) 26 3 (.int .i64 0) 8 rfl Try.underlying26 info3 rfl (by decide) (by omega) vA ([] : List Int) s _ _ _ (fun _ => True) (fun _ => False) rfl rfl HOA.out (Kd.C_below HRi.out.2.2 HBA.out) (fun _ _ h => h) (fun _ h => h.elim) (fun _ _ => trivial) HBA.out (below_size HBA.out) (by simp only [List.length_nil]; omega) ?_; intro vB wB ho hb hg hat; rw [List.nil_append] at ho; obtain ⟨gB, cB, eB, hgB, _⟩ := Kd.R_form ho HPOS.out; subst eB; have HOB := Aside0.mk ho; have HBB := Aside0.mk hb; have HGB2 := Aside0.mk hgB; obtain ⟨i0, hi0, _, hsz, _⟩ := info_parts info3; have hcut := cut_from (P := Try.prog) 26 3 .i64 Try.underlying26 hi0 1 hsz (some ⟨gB, 0, none⟩) s.length cB 1 (by omega) q1; have hroom : s.length ≤ cB := (Kd.R_reads' ho).2.1; have hr := Kd.C_drop (m := (1 : Int).toNat) (c := cB) (Kd.R_reads' ho).2.2 (show 1 ≤ s.length from HPOS.out) hroom; obtain ⟨A1, hA1⟩ : ∃ A1, A1 = (if cB = (1 : Int).toNat then (some ⟨gB, 0, none⟩) else (some ⟨gB, 0, none⟩ : Option Addr).map (·.add ((1 : Int).toNat * 1))) := ⟨_, rfl⟩; obtain ⟨c1, hc1⟩ : ∃ c1, c1 = cB - (1 : Int).toNat := ⟨_, rfl⟩; have hyl : y.length = s.length - (1 : Int).toNat := (by rw [HY.out, List.length_drop]; rfl); rw [← hyl, ← hA1, ← hc1] at hcut; have HRY := Aside0.mk (show Kd.C (Kd.int .i64) wB A1 y.length y from by rw [HY.out, hA1]; exact hr); have HCY := Aside0.mk (show y.length ≤ c1 from by rw [hyl, hc1]; exact Nat.sub_le_sub_right hroom _); clear ho hb hg hat hgB hr hroom hi0 hsz hc1 hA1 hyl))); refine (spec_DegreeOf.calls k A1 c1 y dg _ HRY.out HCY.out HDY.out).mono ?_; rintro e wv ⟨rfl, hd⟩; have hbv := Drawn0.below hd; have HOV := Aside0.mk (Kd.R_below HOB.out hbv); have HBV := Aside0.mk (below_step HBB.out hbv); obtain ⟨hmv, hmf⟩ := Kd.R_celln 0 HOV.out (0 : Int) (by omega) q0; rw [show (0 : Int).toNat = 0 from rfl] at hmv hmf; clear hd hbv hcut hz0 hz1; (go_wp2_with (first | ((with_reducible refine gate_store (t := 3) (p := 24) rfl ?_); refine store_event (t := 3) (p := 24) (v := .tmp 23) (w1 := (wv.setCell ⟨gB, 0, none⟩ (.int .i64 (wrap64 (-dg))))) ?hg ?ho ?hn ?hr ?_; (case ho => rfl); (case hg => rfl); (case hn => rfl); (case hr => exact zz9); intro wC hw; have hput := Kd.R_putg HOV.out (0 : Int) (wrap64 (-dg)); rw [show (0 : Int).toNat = 0 from rfl] at hput; have HD := Aside0.mk (show Kd.R (Kd.int .i64) 3 wC w1.heap.size (fun k_ => w1.heap.size ≤ k_) (.slice (some ⟨gB, 0, none⟩) s.length cB) d from by rw [hw, HDS.out]; exact Kd.R_mono (Kd.R_bound hput.1) fun k_ hk => hk.2.1); have HBC := Aside0.mk (show Below w1.heap.size w1 wC from by rw [hw]; exact below_set HBV.out HGB2.out); have BGC := Aside0.mk (blk_below BG1.out HBC.out); clear hw hput hmv hmf))); refine start_ (n := 7) (S := fun w' => w'.cell? ⟨gb, 0, none⟩ = some (.int .i64 (n : Int)) ∧ w'.cell? ⟨gb, 1, none⟩ = some (.slice A0 es.length c0)) (ds := []) (zM 7 0) (by kernel_rfl) rfl rfl ⟨(blk_cell BGC.out 0).trans rfl, (blk_cell BGC.out 1).trans rfl⟩ (fun hHeld => ?_); refine with_tabW spec_l09Boxes.tab5 spec_l09Boxes.bits5 (fun HT_ HW_ => ?_); have hdr : Below wC.heap.size wC wC.drew := below_drew (Below.refl _ _); have BG2 := Aside0.mk (blk_below BGC.out hdr); have HB2 := Aside0.mk (below_step HBC.out hdr); have HD2 := Aside0.mk (Kd.R_below HD.out hdr); generalize wC.drew = wd at BG2 HB2 HD2 hHeld ⊢; clear hdr BGC HBC HD; refine zQ 1 26 (zM 7 2) ?_
  refine zQ 4 29 (zM 7 18) ?_
  refine take_ (i := 0) (N := some 25) (v := ?_) (a' := ?_) (zM 7 19) rfl rfl (take_ofW HT_.out HW_.out (by kernel_rfl)) (fun _ _ _ h => h) (Or.inl ⟨by rfl, ?_⟩) hHeld ?_ ?_; rotate_left
  ·rintro w' ⟨s0, s1⟩; exact zzT
  rotate_left
  ·exact zzS
  refine take_ (i := 5) (N := some 30) (v := ?_) (a' := ?_) (zM 7 51) rfl rfl (take_ofW HT_.out HW_.out (by kernel_rfl)) (fun _ _ _ h => h) (Or.inl ⟨by rfl, ?_⟩) hHeld ?_ ?_; rotate_left
  ·rintro w' ⟨s0, s1⟩; exact zzT
  rotate_left
  ·exact zzS
  refine one_ (i := 2) (N := some 27) (zM 7 55) rfl rfl (one_of HT_.out (by kernel_rfl)) (by decide) (fun K hK => ?_); refine goes_ Try.func95 (by kernel_rfl) rfl #[.agg #[.int .i64 (n : Int), .slice A0 es.length c0], .slice (some ⟨gB, 0, none⟩) s.length cB, .int .i64 0] (by rfl) rfl rfl zz22 ?_; have hD2 := HD2.out; rw [← HDL.out] at hD2; have hC2 := Kd.R_reads' hD2; have h_ := spec_l05Burn.calls k (n : Int) _ _ es _ _ d 0 b _ (Kd.C_below (Kd.C_below (Kd.C_below HE.out HB.out) HB1.out) HB2.out) HC.out hC2.2.2 hC2.2.1 HBR.out; rw [HDL.out] at h_; refine h_.mono ?_; rintro e w3 ⟨v3, rfl, hR, hb⟩; obtain ⟨Ab, cb, eb⟩ := Kd.R_slice hR; subst eb; have BG3 := Aside0.mk (blk_below BG2.out hb); have HD3 := Aside0.mk (Kd.R_below HD2.out hb); have HB3 := Aside0.mk (below_step HB1.out (below_step HB2.out hb)); clear hR hb hC2 hD2 h_ BG2 HB2 HD2; refine ⟨_, rfl, ?_⟩; refine hK.out _ _ ⟨(blk_cell BG3.out 0).trans rfl, (blk_cell BG3.out 1).trans rfl⟩ (fun hHeld => ?_); clear hK K; refine norm_ (a' := ?_) ?_ ?_; rotate_left
  ·show Act.put _ (some 27) _ = _; exact zzS
  refine zQ 3 28 (zM 7 63) ?_
  by_cases hbn : (b.length : Int) = (n : Int)
  ·have hbe : ((b.length : Int) == (n : Int)) = true := beq_iff_eq.2 hbn; refine zQ 6 31 (zM 7 127) ?_
   refine done_ (done_of HT_.out (by kernel_rfl)) ?_; (go_wp2_with (first | ((with_reducible refine gate_builtin (b := .append) (xs := #[.tmp 32, .tmp 34]) rfl ?_); at_builtin; refine Kd.S_append (Kd.slice 3 (Kd.int .i64)) (w0 := w0) w0.heap.size rfl (.tmp 32) (.tmp 34) 34 26 (.slice none 0 0) 24 rfl Try.underlying34 info26 rfl (by decide) (by omega) u out d [.slice (some ⟨gB, 0, none⟩) s.length cB] ok (fun k_ => w.heap.size ≤ k_) rfl rfl (Kd.M_row (Kd.R_mono (Kd.R_lower HD3.out (Nat.le_trans HB.out.size HB1.out.size)) fun k_ hk => Nat.le_trans HB1.out.size hk)) (fun k_ hk => ⟨HFR.out k_ hk, fun e => by have := Kd.S_lt HS.out k_ e.symm; omega⟩) (fun k_ hk => HFR.out k_ (Nat.le_trans HB3.out.size hk)) (Kd.S_mono (Kd.S_below (Kd.S_bound HS.out) HB3.out) fun k_ hk => ⟨hk.1, fun h => by have := hk.2.2.1; omega⟩) (below_step HB.out HB3.out) (below_size (below_step HB.out HB3.out)) (by have := HL.out; omega) ?_; intro vE wE ho hb hg hat; have HOE := Aside0.mk ho; have HBE := Aside0.mk hb; have HKE := Aside0.mk (Kept.of_grown hg (Kept.of_below HB3.out ok) (fun k_ e => Or.inl (HS.out.choose_spec.1 k_ e))); clear ho hb hg hat))); go_ret; refine ⟨⟨_, rfl, ?_⟩, HBE.out, HKE.out⟩; (first | rw [if_pos hbn] | rw [decide_eq_true hbn, if_pos rfl] | simp only [hbn, if_true, decide_true]); exact HOE.out
  ·have hbe : ((b.length : Int) == (n : Int)) = false := beq_eq_false_iff_ne.2 hbn; refine zQ 6 31 (zM 7 127) ?_
   refine done_ (done_of HT_.out (by kernel_rfl)) ?_; go_wp2; all_goals (go_ret; refine ⟨⟨_, rfl, ?_⟩, below_step HB.out HB3.out, Kept.of_below HB3.out _⟩; (first | rw [if_neg hbn, List.append_nil] | rw [decide_eq_false hbn, if_neg (by simp), List.append_nil] | rw [List.append_nil] | skip); exact Kd.S_below HS.out HB3.out)
 | succ r ih =>
  intro s okP ok As cs u out w hlen hpos hans hP hdis hfr hS hB hL; have HLEN := Aside0.mk hlen; have HPOS := Aside0.mk hpos; have HANS := Aside0.mk hans; have HP := Aside0.mk hP; have HDIS := Aside0.mk hdis; have HFR := Aside0.mk hfr; have HS := Aside0.mk hS; have HB := Aside0.mk hB; have HL := Aside0.mk hL; (have hsb : (s.length : Int) ≤ 6 := by have := HN.out; omega); have IH := Aside0.mk ih; clear ih; (have hsn : s.length < n := by have := HLEN.out; omega); have c0_ : ((s.length : Int) == (n : Int)) = false := beq_eq_false_iff_ne.2 (by omega); obtain ⟨hm0, hm1, hm2⟩ := HV.out s.length hsn; obtain ⟨m, hm⟩ := Option.isSome_iff_exists.1 hm0; (have hcn : spec_l09Boxes.cnt k (n : Int) es s.length = (mx 1 m).toNat := by unfold spec_l09Boxes.cnt; rw [hm]; rfl); rw [hm] at hm1 hm2; simp only [Option.getD_some] at hm1 hm2; have HM := Aside0.mk hm; obtain ⟨mo, hmo⟩ : ∃ x : Int, (if (1 : Int) < m then m else 1) = x := ⟨_, rfl⟩; have HMO := Aside0.mk (show mx 1 m = mo ∧ 1 ≤ mo ∧ mo ≤ 24 from ⟨hmo, by rw [← hmo]; split <;> omega, by rw [← hmo]; split <;> omega⟩); have HCN := Aside0.mk (show spec_l09Boxes.cnt k (n : Int) es s.length = mo.toNat from by rw [hcn, HMO.out.1]); have HCN2 := Aside0.mk (show (spec_l09Boxes.cnt k (n : Int) es s.length : Int) = mo from by rw [HCN.out]; have := HMO.out; omega); have HCNB := Aside0.mk (show spec_l09Boxes.cnt k (n : Int) es s.length ≤ 24 from by have := HCN2.out; have := HMO.out; omega); clear hlen hpos hans hP hdis hfr hS hB hL hm hm0 hm1 hm2 hsn hcn; go_enter Try.func63, Try.ntmps63; (go_wp2_with (first | ((with_reducible refine gate_dst (N := 3) rfl ?_); refine box_event ?hg (N := 3) ?hd (cs := #[.int .i64 (n : Int), .slice A0 es.length c0]) (t := 25) ?hr ?_; (case hd => rfl); (case hg => rfl); (case hr => exact zz9); intro gb hg w1 hbox hb; have HGB := Aside0.mk hg; have BG1 := Aside0.mk hbox; have HB1 := Aside0.mk hb; have hz0 : w1.cell? ⟨gb, 0, none⟩ = some (.int .i64 (n : Int)) := (blk_cell BG1.out 0).trans rfl; have hz1 : w1.cell? ⟨gb, 1, none⟩ = some (.slice A0 es.length c0) := (blk_cell BG1.out 1).trans rfl; clear hg hbox hb))); have HGW := Aside0.mk (show w.heap.size ≤ gb ∧ gb < w1.heap.size from ⟨by have := HGB.out; omega, blk_lt BG1.out⟩); clear hz0 hz1; (try go_wp2); (go_loopw [2, 9] (fun v2 v9 wr => ∃ j : Nat, v9 = .int .i64 (j : Int) ∧ Aside0 (j ≤ spec_l09Boxes.cnt k (n : Int) es s.length) ∧ Aside0 (Below w0.heap.size w0 wr ∧ wr.heap[gb]? = some (.cells #[.int .i64 (n : Int), .slice A0 es.length c0] 25 (0, 0))) ∧ Aside0 (Kd.S (Kd.slice 3 (Kd.int .i64)) 26 wr w0.heap.size (fun k_ => ok k_ ∧ k_ ≠ gb) v2 (out ++ ((Cf.dfsJ (spec_l09Boxes.cnt k (n : Int) es) r s.length s j).map (spec_l09Boxes.lf k)).filter (spec_l09Boxes.pr k (n : Int) es))) ∧ Aside0 (Kept w wr ok ∧ w1.heap.size ≤ wr.heap.size)) (fun _ v _ => spec_l09Boxes.cnt k (n : Int) es s.length - (intOf v).toNat)); case atStart => exact ⟨0, rfl, ⟨Nat.zero_le _⟩, ⟨below_step HB.out HB1.out, BG1.out⟩, ⟨by rw [Cf.dfsJ_zero, List.map_nil, List.filter_nil, List.append_nil]; exact Kd.S_mono (Kd.S_below (Kd.S_bound HS.out) HB1.out) fun k_ hk => ⟨hk.1, by have := hk.2.2.1; have := HGW.out.1; omega⟩⟩, ⟨Kept.of_below HB1.out _, Nat.le_refl _⟩⟩
  case round =>
   obtain ⟨j, rfl, HJ, HBG, HSr, HKr⟩ := hrel; (have hjb : (j : Int) ≤ 24 := by have := HJ.out; have := HCNB.out; omega); have hz0 : wr.cell? ⟨gb, 0, none⟩ = some (.int .i64 (n : Int)) := (blk_cell HBG.out.2 0).trans rfl; have hz1 : wr.cell? ⟨gb, 1, none⟩ = some (.slice A0 es.length c0) := (blk_cell HBG.out.2 1).trans rfl; (go_wp2_with fail); refine (spec_Valence.calls k (n : Int) _ _ es (s.length : Int) m _ (Kd.C_below HE.out HBG.out.1) HC.out HM.out).mono ?_; rintro e wv ⟨rfl, hb⟩; have BGv := Aside0.mk (blk_below HBG.out.2 hb); have HBv := Aside0.mk (below_step HBG.out.1 hb); have HSv := Aside0.mk (Kd.S_below HSr.out hb); have HKv := Aside0.mk (show Kept w wv ok ∧ w1.heap.size ≤ wv.heap.size from ⟨HKr.out.1.below hb, Nat.le_trans HKr.out.2 hb.size⟩); clear hb hz0 hz1 HBG HSr HKr; by_cases hj : j < spec_l09Boxes.cnt k (n : Int) es s.length
   ·have d0 : decide ((j : Int) < mo) = true := decide_eq_true (by have := HCN2.out; omega); have HJN := Aside0.mk hj; clear hj; (try go_wp2); refine start_ (n := 10) (S := fun w' => w'.cell? ⟨gb, 0, none⟩ = some (.int .i64 (n : Int)) ∧ w'.cell? ⟨gb, 1, none⟩ = some (.slice A0 es.length c0)) (ds := []) (zM 10 0) (by kernel_rfl) rfl rfl ⟨(blk_cell BGv.out 0).trans rfl, (blk_cell BGv.out 1).trans rfl⟩ (fun hHeld => ?_); refine with_tabW spec_l09Boxes.tab11 spec_l09Boxes.bits11 (fun HT_ HW_ => ?_); have hdr : Below wv.heap.size wv wv.drew := below_drew (Below.refl _ _); have BGd := Aside0.mk (blk_below BGv.out hdr); have HBd := Aside0.mk (below_step HBv.out hdr); have HSd := Aside0.mk (Kd.S_below HSv.out hdr); have HKd := Aside0.mk (HKv.out.1.below hdr); have HZd := Aside0.mk (show w1.heap.size ≤ wv.drew.heap.size from HKv.out.2); generalize wv.drew = wd at BGd HBd HSd HKd HZd hHeld ⊢; have HPd := Aside0.mk (Kd.R_kept HP.out HKd.out fun k_ hk => HDIS.out k_ hk); clear hdr BGv HBv HSv HKv; refine zQ 2 47 (zM 10 4) ?_
    refine zQ 4 49 (zM 10 20) ?_
    refine zQ 7 52 (zM 10 148) ?_
    refine take_ (i := 0) (N := some 45) (v := ?_) (a' := ?_) (zM 10 149) rfl rfl (take_ofW HT_.out HW_.out (by kernel_rfl)) (fun _ _ _ h => h) (Or.inl ⟨by rfl, ?_⟩) hHeld ?_ ?_; rotate_left
    ·rintro w' ⟨s0, s1⟩; exact zzT
    rotate_left
    ·exact zzS
    refine two_ (i := 1) (j := 5) (Ni := some 46) (Nj := some 50) (zM 10 151) (zM 10 181) rfl rfl rfl rfl (two_of HT_.out (by kernel_rfl)) (by decide) (by decide) (fun K hK => ?_) (fun K hK => ?_)
    ·(skip); refine Kd.R_lit_step (w0 := wd) (Kd.int .i64) wd.heap.size 3 ?hg (N := 46) ?hd (xs := ([] : List Int)) (inner := []) (ok := fun _ => True) (okp := fun _ => True) ?hr ?hp (fun _ hk => hk) trivial (Below.refl _ _) (Nat.le_refl _) (by simp) ?_; (case hd => rfl); (case hg => rfl); (case hr => exact zz9); (case hp => exact (Reps.none _ _)); intro vA wA hoA hbA hg_ hnew_; have HOA := Aside0.mk hoA; have HBx := Aside0.mk hbA; clear hoA hbA hg_ hnew_; refine hK.out _ _ ⟨(blk_cell (blk_below BGd.out HBx.out) 0).trans rfl, (blk_cell (blk_below BGd.out HBx.out) 1).trans rfl⟩ (fun hHeld => ?_); clear hK K; refine norm_ (a' := ?_) ?_ ?_; rotate_left
     ·show Act.put _ (some 46) _ = _; exact zzS
     refine two_ (i := 3) (j := 5) (Ni := some 48) (Nj := some 50) (zM 10 159) (zM 10 183) rfl rfl rfl rfl (two_of HT_.out (by kernel_rfl)) (by decide) (by decide) (fun K hK => ?_) (fun K hK => ?_)
     ·(skip); have HRp := Aside0.mk (Kd.R_reads' (Kd.R_below HPd.out HBx.out)); refine Kd.R_append_rows_step (Kd.int .i64) (w0 := wd) wd.heap.size (by rfl) (.tmp 46) (.tmp 47) 26 3 (.int .i64 0) 8 rfl Try.underlying26 info3 rfl (by decide) (by omega) vA ([] : List Int) s _ _ _ (fun _ => True) (fun _ => False) rfl rfl HOA.out HRp.out.2.2 (fun _ _ h => h) (fun _ h => h.elim) (fun _ _ => trivial) HBx.out (below_size HBx.out) (by have := hsb; simp only [List.length_nil]; omega) ?_; intro vB wB hoB hbB hg_ hat_; rw [List.nil_append] at hoB; have HOB := Aside0.mk hoB; have HBx := Aside0.mk hbB; clear hoB hbB hg_ hat_; refine hK.out _ _ ⟨(blk_cell (blk_below BGd.out HBx.out) 0).trans rfl, (blk_cell (blk_below BGd.out HBx.out) 1).trans rfl⟩ (fun hHeld => ?_); clear hK K; refine norm_ (a' := ?_) ?_ ?_; rotate_left
      ·show Act.put _ (some 48) _ = _; exact zzS
      refine one_ (i := 5) (N := some 50) (zM 10 191) rfl rfl (one_of HT_.out (by kernel_rfl)) (by decide) (fun K hK => ?_); refine Kd.R_lit_step (w0 := wd) (Kd.int .i64) wd.heap.size 3 ?hg (N := 50) ?hd (xs := [(j : Int)]) (inner := [.int .i64 (j : Int)]) (ok := fun _ => True) (okp := fun _ => True) ?hr ?hp (fun _ hk => hk) trivial HBx.out (below_size HBx.out) (by simp) ?_; (case hd => rfl); (case hg => rfl); (case hr => exact zz9); (case hp => exact Kd.reps_scalar _); intro vX wX hoX hbX hg_ hnew_; have HOB := Aside0.mk (Kd.R_grown (ok := fun _ => True) HOB.out hg_ (fun k_ _ => by simp)); have HCx := Aside0.mk (Kd.R_tight rfl hoX); have HBx := Aside0.mk hbX; clear hoX hbX hg_ hnew_; refine hK.out _ _ ⟨(blk_cell (blk_below BGd.out HBx.out) 0).trans rfl, (blk_cell (blk_below BGd.out HBx.out) 1).trans rfl⟩ (fun hHeld => ?_); clear hK K; refine norm_ (a' := ?_) ?_ ?_; rotate_left
      ·show Act.put _ (some 50) _ = _; exact zzS
      obtain ⟨AX, cX, eX⟩ := Kd.R_slice HCx.out; subst eX; refine one_ (i := 6) (N := some 51) (zM 10 255) rfl rfl (one_of HT_.out (by kernel_rfl)) (by decide) (fun K hK => ?_); refine Kd.R_append_rows_step (Kd.int .i64) (w0 := wd) wd.heap.size (by rfl) (.tmp 48) (.tmp 50) 26 3 (.int .i64 0) 8 rfl Try.underlying26 info3 rfl (by decide) (by omega) vB s [(j : Int)] _ _ _ (fun _ => True) (fun _ => False) rfl rfl HOB.out (Kd.R_reads' HCx.out).2.2 (fun _ _ h => h) (fun _ h => h.elim) (fun _ _ => trivial) HBx.out (below_size HBx.out) (by have := hsb; simp only [List.length_cons, List.length_nil]; omega) ?_; intro vD wD hoD hbD hg_ hat_; have HBx := Aside0.mk hbD; have hlD : (s ++ [(j : Int)]).length = s.length + 1 := List.length_append; obtain ⟨g, cD, eD, hg1, hg2, _⟩ := Kd.R_form hoD (by omega); subst eD; have HOD := Aside0.mk hoD; have HGD := Aside0.mk (show wd.heap.size ≤ g ∧ g < wD.heap.size from ⟨hg1, hg2⟩); clear hoD hbD hg_ hat_ hg1 hg2; refine hK.out _ _ ⟨(blk_cell (blk_below BGd.out HBx.out) 0).trans rfl, (blk_cell (blk_below BGd.out HBx.out) 1).trans rfl⟩ (fun hHeld => ?_); clear hK K; refine norm_ (a' := ?_) ?_ ?_; rotate_left
      ·show Act.put _ (some 51) _ = _; exact zzS
      refine one_ (i := 8) (N := some 53) (zM 10 511) rfl rfl (one_of HT_.out (by kernel_rfl)) (by decide) (fun K hK => ?_); refine goes_ Try.func63 (by kernel_rfl) rfl #[.agg #[.int .i64 (n : Int), .slice A0 es.length c0], .slice (some ⟨g, 0, none⟩) (s ++ [(j : Int)]).length cD, u2] (by rfl) rfl rfl zz22 ?_; have hTD := Kd.R_lower (Kd.R_tight rfl HOD.out) (below_size HBd.out); have h_ := IH.out (s ++ [(j : Int)]) (fun k_ => some k_ = (Value.slice (some ⟨g, 0, none⟩) (s ++ [(j : Int)]).length cD).ownBlock) (fun k_ => (ok k_ ∧ k_ ≠ gb) ∧ k_ ≠ g) (some ⟨g, 0, none⟩) cD u2 (out ++ ((Cf.dfsJ (spec_l09Boxes.cnt k (n : Int) es) r s.length s j).map (spec_l09Boxes.lf k)).filter (spec_l09Boxes.pr k (n : Int) es)) wD ?i1_1 ?i3_1 ?i2_1 hTD ?i4_1 ?i5_1 ?i6_1 (below_step HBd.out HBx.out) ?i8_1; (case i1_1 => rw [hlD]; have := HLEN.out; omega); (case i3_1 => rw [hlD]; omega); (case i2_1 => rw [hlD]; exact fun t ht => HANS.out t (Cf.dfs_sub _ _ _ _ HJN.out ht)); (case i4_1 => exact fun k_ hk h => h.2 (by simpa [Value.ownBlock] using hk)); (case i5_1 => exact fun k_ hk => ⟨⟨HFR.out k_ zz58, by have := HGW.out.2; have := HZd.out; have := HBx.out.size; omega⟩, by have := HGD.out; omega⟩); (case i6_1 => exact Kd.S_mono (Kd.S_below (Kd.S_bound HSd.out) HBx.out) fun k_ hk => ⟨hk.1, by have := hk.2.2.1; have := HGD.out; omega⟩); (case i8_1 => rw [hlD, List.length_append]; have h1 : (Cf.dfsJ (spec_l09Boxes.cnt k (n : Int) es) r s.length s j).length + (Cf.dfsB (spec_l09Boxes.cnt k (n : Int) es) r (s.length + 1) (s ++ [(j : Int)])).length ≤ (Cf.dfsB (spec_l09Boxes.cnt k (n : Int) es) (r + 1) s.length s).length := Cf.dfsJ_len (spec_l09Boxes.cnt k (n : Int) es) r s.length s HJN.out; have h2 := List.length_filter_le (spec_l09Boxes.pr k (n : Int) es) ((Cf.dfsJ (spec_l09Boxes.cnt k (n : Int) es) r s.length s j).map (spec_l09Boxes.lf k)); rw [List.length_map] at h2; have h3 := HL.out; omega); rw [hlD] at h_; (try rw [hlD]); refine h_.mono ?_; rintro e w5 ⟨⟨v5, rfl, hS5⟩, hB5, hK5⟩; have BG5 := Aside0.mk (blk_kept (blk_below BGd.out HBx.out) hK5 (fun h => h.1.2 rfl)); have HS5 := Aside0.mk hS5; have HB5 := Aside0.mk hB5; have HK5 := Aside0.mk (show Kept w w5 ok ∧ w1.heap.size ≤ w5.heap.size from ⟨(HKd.out.below HBx.out).then_ hK5 (fun k_ h => Or.inl h.1.1), by have := hK5.1; have := HBx.out.size; have := HZd.out; omega⟩); clear hS5 hB5 hK5 h_ hTD; refine ⟨_, rfl, ?_⟩; refine hK.out _ _ ⟨(blk_cell BG5.out 0).trans rfl, (blk_cell BG5.out 1).trans rfl⟩ (fun hHeld => ?_); clear hK K; refine norm_ (a' := ?_) ?_ ?_; rotate_left
      ·show Act.put _ (some 53) _ = _; exact zzS
      refine zQ 9 2 (zM 10 1023) ?_
      refine done_ (done_of HT_.out (by kernel_rfl)) ?_; (try go_wp2); go_roundw
      case rel =>
       refine ⟨j + 1, by go_num, ⟨HJN.out⟩, ⟨HB5.out, BG5.out⟩, ⟨?_⟩, HK5⟩; rw [Cf.dfsJ_succ, List.map_append, List.filter_append, ← List.append_assoc]; exact Kd.S_mono HS5.out fun k_ h => h.1
      case measure =>
       have := HJN.out; first | (simp [intOf]; done) | (simp [intOf]; omega)
     ·have HOA0 := HOA; refine Kd.R_lit_step (w0 := wd) (Kd.int .i64) wd.heap.size 3 ?hg (N := 50) ?hd (xs := [(j : Int)]) (inner := [.int .i64 (j : Int)]) (ok := fun _ => True) (okp := fun _ => True) ?hr ?hp (fun _ hk => hk) trivial HBx.out (below_size HBx.out) (by simp) ?_; (case hd => rfl); (case hg => rfl); (case hr => exact zz9); (case hp => exact Kd.reps_scalar _); intro vX wX hoX hbX hg_ hnew_; have HOA := Aside0.mk (Kd.R_grown (ok := fun _ => True) HOA.out hg_ (fun k_ _ => by simp)); have HCx := Aside0.mk (Kd.R_tight rfl hoX); have HBx := Aside0.mk hbX; have HNE := Aside0.mk (show vX.ownBlock ≠ vA.ownBlock from by obtain ⟨b_, hb1, hb2⟩ := hnew_; intro e; have := Kd.R_lt HOA0.out b_ (e.symm.trans hb1); omega); clear hoX hbX hg_ hnew_; refine hK.out _ _ ⟨(blk_cell (blk_below BGd.out HBx.out) 0).trans rfl, (blk_cell (blk_below BGd.out HBx.out) 1).trans rfl⟩ (fun hHeld => ?_); clear hK K; refine norm_ (a' := ?_) ?_ ?_; rotate_left
      ·show Act.put _ (some 50) _ = _; exact zzS
      refine one_ (i := 3) (N := some 48) (zM 10 191) rfl rfl (one_of HT_.out (by kernel_rfl)) (by decide) (fun K hK => ?_); have HRp := Aside0.mk (Kd.R_reads' (Kd.R_below HPd.out HBx.out)); refine Kd.R_append_rows_step (Kd.int .i64) (w0 := wd) wd.heap.size (by rfl) (.tmp 46) (.tmp 47) 26 3 (.int .i64 0) 8 rfl Try.underlying26 info3 rfl (by decide) (by omega) vA ([] : List Int) s _ _ _ (fun _ => True) (fun _ => False) rfl rfl HOA.out HRp.out.2.2 (fun _ _ h => h) (fun _ h => h.elim) (fun _ _ => trivial) HBx.out (below_size HBx.out) (by have := hsb; simp only [List.length_nil]; omega) ?_; intro vB wB hoB hbB hg_ hat_; rw [List.nil_append] at hoB; have HCx := Aside0.mk (Kd.R_step HCx.out fun k_ hk hlt => hg_.block k_ hlt (by rw [hk]; exact fun e => HNE.out e)); have HOB := Aside0.mk hoB; have HBx := Aside0.mk hbB; clear hoB hbB hg_ hat_; refine hK.out _ _ ⟨(blk_cell (blk_below BGd.out HBx.out) 0).trans rfl, (blk_cell (blk_below BGd.out HBx.out) 1).trans rfl⟩ (fun hHeld => ?_); clear hK K; refine norm_ (a' := ?_) ?_ ?_; rotate_left
      ·show Act.put _ (some 48) _ = _; exact zzS
      obtain ⟨AX, cX, eX⟩ := Kd.R_slice HCx.out; subst eX; refine one_ (i := 6) (N := some 51) (zM 10 255) rfl rfl (one_of HT_.out (by kernel_rfl)) (by decide) (fun K hK => ?_); refine Kd.R_append_rows_step (Kd.int .i64) (w0 := wd) wd.heap.size (by rfl) (.tmp 48) (.tmp 50) 26 3 (.int .i64 0) 8 rfl Try.underlying26 info3 rfl (by decide) (by omega) vB s [(j : Int)] _ _ _ (fun _ => True) (fun _ => False) rfl rfl HOB.out (Kd.R_reads' HCx.out).2.2 (fun _ _ h => h) (fun _ h => h.elim) (fun _ _ => trivial) HBx.out (below_size HBx.out) (by have := hsb; simp only [List.length_cons, List.length_nil]; omega) ?_; intro vD wD hoD hbD hg_ hat_; have HBx := Aside0.mk hbD; have hlD : (s ++ [(j : Int)]).length = s.length + 1 := List.length_append; obtain ⟨g, cD, eD, hg1, hg2, _⟩ := Kd.R_form hoD (by omega); subst eD; have HOD := Aside0.mk hoD; have HGD := Aside0.mk (show wd.heap.size ≤ g ∧ g < wD.heap.size from ⟨hg1, hg2⟩); clear hoD hbD hg_ hat_ hg1 hg2; refine hK.out _ _ ⟨(blk_cell (blk_below BGd.out HBx.out) 0).trans rfl, (blk_cell (blk_below BGd.out HBx.out) 1).trans rfl⟩ (fun hHeld => ?_); clear hK K; refine norm_ (a' := ?_) ?_ ?_; rotate_left
      ·show Act.put _ (some 51) _ = _; exact zzS
      refine one_ (i := 8) (N := some 53) (zM 10 511) rfl rfl (one_of HT_.out (by kernel_rfl)) (by decide) (fun K hK => ?_); refine goes_ Try.func63 (by kernel_rfl) rfl #[.agg #[.int .i64 (n : Int), .slice A0 es.length c0], .slice (some ⟨g, 0, none⟩) (s ++ [(j : Int)]).length cD, u2] (by rfl) rfl rfl zz22 ?_; have hTD := Kd.R_lower (Kd.R_tight rfl HOD.out) (below_size HBd.out); have h_ := IH.out (s ++ [(j : Int)]) (fun k_ => some k_ = (Value.slice (some ⟨g, 0, none⟩) (s ++ [(j : Int)]).length cD).ownBlock) (fun k_ => (ok k_ ∧ k_ ≠ gb) ∧ k_ ≠ g) (some ⟨g, 0, none⟩) cD u2 (out ++ ((Cf.dfsJ (spec_l09Boxes.cnt k (n : Int) es) r s.length s j).map (spec_l09Boxes.lf k)).filter (spec_l09Boxes.pr k (n : Int) es)) wD ?i1_2 ?i3_2 ?i2_2 hTD ?i4_2 ?i5_2 ?i6_2 (below_step HBd.out HBx.out) ?i8_2; (case i1_2 => rw [hlD]; have := HLEN.out; omega); (case i3_2 => rw [hlD]; omega); (case i2_2 => rw [hlD]; exact fun t ht => HANS.out t (Cf.dfs_sub _ _ _ _ HJN.out ht)); (case i4_2 => exact fun k_ hk h => h.2 (by simpa [Value.ownBlock] using hk)); (case i5_2 => exact fun k_ hk => ⟨⟨HFR.out k_ zz58, by have := HGW.out.2; have := HZd.out; have := HBx.out.size; omega⟩, by have := HGD.out; omega⟩); (case i6_2 => exact Kd.S_mono (Kd.S_below (Kd.S_bound HSd.out) HBx.out) fun k_ hk => ⟨hk.1, by have := hk.2.2.1; have := HGD.out; omega⟩); (case i8_2 => rw [hlD, List.length_append]; have h1 : (Cf.dfsJ (spec_l09Boxes.cnt k (n : Int) es) r s.length s j).length + (Cf.dfsB (spec_l09Boxes.cnt k (n : Int) es) r (s.length + 1) (s ++ [(j : Int)])).length ≤ (Cf.dfsB (spec_l09Boxes.cnt k (n : Int) es) (r + 1) s.length s).length := Cf.dfsJ_len (spec_l09Boxes.cnt k (n : Int) es) r s.length s HJN.out; have h2 := List.length_filter_le (spec_l09Boxes.pr k (n : Int) es) ((Cf.dfsJ (spec_l09Boxes.cnt k (n : Int) es) r s.length s j).map (spec_l09Boxes.lf k)); rw [List.length_map] at h2; have h3 := HL.out; omega); rw [hlD] at h_; (try rw [hlD]); refine h_.mono ?_; rintro e w5 ⟨⟨v5, rfl, hS5⟩, hB5, hK5⟩; have BG5 := Aside0.mk (blk_kept (blk_below BGd.out HBx.out) hK5 (fun h => h.1.2 rfl)); have HS5 := Aside0.mk hS5; have HB5 := Aside0.mk hB5; have HK5 := Aside0.mk (show Kept w w5 ok ∧ w1.heap.size ≤ w5.heap.size from ⟨(HKd.out.below HBx.out).then_ hK5 (fun k_ h => Or.inl h.1.1), by have := hK5.1; have := HBx.out.size; have := HZd.out; omega⟩); clear hS5 hB5 hK5 h_ hTD; refine ⟨_, rfl, ?_⟩; refine hK.out _ _ ⟨(blk_cell BG5.out 0).trans rfl, (blk_cell BG5.out 1).trans rfl⟩ (fun hHeld => ?_); clear hK K; refine norm_ (a' := ?_) ?_ ?_; rotate_left
      ·show Act.put _ (some 53) _ = _; exact zzS
      refine zQ 9 2 (zM 10 1023) ?_
      refine done_ (done_of HT_.out (by kernel_rfl)) ?_; (try go_wp2); go_roundw
      case rel =>
       refine ⟨j + 1, by go_num, ⟨HJN.out⟩, ⟨HB5.out, BG5.out⟩, ⟨?_⟩, HK5⟩; rw [Cf.dfsJ_succ, List.map_append, List.filter_append, ← List.append_assoc]; exact Kd.S_mono HS5.out fun k_ h => h.1
      case measure =>
       have := HJN.out; first | (simp [intOf]; done) | (simp [intOf]; omega)
    ·(skip); refine Kd.R_lit_step (w0 := wd) (Kd.int .i64) wd.heap.size 3 ?hg (N := 50) ?hd (xs := [(j : Int)]) (inner := [.int .i64 (j : Int)]) (ok := fun _ => True) (okp := fun _ => True) ?hr ?hp (fun _ hk => hk) trivial (Below.refl _ _) (Nat.le_refl _) (by simp) ?_; (case hd => rfl); (case hg => rfl); (case hr => exact zz9); (case hp => exact Kd.reps_scalar _); intro vX wX hoX hbX hg_ hnew_; have HCx := Aside0.mk (Kd.R_tight rfl hoX); have HBx := Aside0.mk hbX; clear hoX hbX hg_ hnew_; refine hK.out _ _ ⟨(blk_cell (blk_below BGd.out HBx.out) 0).trans rfl, (blk_cell (blk_below BGd.out HBx.out) 1).trans rfl⟩ (fun hHeld => ?_); clear hK K; refine norm_ (a' := ?_) ?_ ?_; rotate_left
     ·show Act.put _ (some 50) _ = _; exact zzS
     refine one_ (i := 1) (N := some 46) (zM 10 183) rfl rfl (one_of HT_.out (by kernel_rfl)) (by decide) (fun K hK => ?_); (skip); refine Kd.R_lit_step (w0 := wd) (Kd.int .i64) wd.heap.size 3 ?hg (N := 46) ?hd (xs := ([] : List Int)) (inner := []) (ok := fun _ => True) (okp := fun _ => True) ?hr ?hp (fun _ hk => hk) trivial HBx.out (below_size HBx.out) (by simp) ?_; (case hd => rfl); (case hg => rfl); (case hr => exact zz9); (case hp => exact (Reps.none _ _)); intro vA wA hoA hbA hg_ hnew_; have HNE := Aside0.mk (show vX.ownBlock ≠ vA.ownBlock from by obtain ⟨b_, hb1, hb2⟩ := hnew_; intro e; have := Kd.R_lt HCx.out b_ (e.trans hb1); omega); have HCx := Aside0.mk (Kd.R_grown (ok := fun k_ => some k_ = vX.ownBlock) HCx.out hg_ (fun k_ _ => by simp)); have HOA := Aside0.mk hoA; have HBx := Aside0.mk hbA; clear hoA hbA hg_ hnew_; refine hK.out _ _ ⟨(blk_cell (blk_below BGd.out HBx.out) 0).trans rfl, (blk_cell (blk_below BGd.out HBx.out) 1).trans rfl⟩ (fun hHeld => ?_); clear hK K; refine norm_ (a' := ?_) ?_ ?_; rotate_left
     ·show Act.put _ (some 46) _ = _; exact zzS
     refine one_ (i := 3) (N := some 48) (zM 10 191) rfl rfl (one_of HT_.out (by kernel_rfl)) (by decide) (fun K hK => ?_); have HRp := Aside0.mk (Kd.R_reads' (Kd.R_below HPd.out HBx.out)); refine Kd.R_append_rows_step (Kd.int .i64) (w0 := wd) wd.heap.size (by rfl) (.tmp 46) (.tmp 47) 26 3 (.int .i64 0) 8 rfl Try.underlying26 info3 rfl (by decide) (by omega) vA ([] : List Int) s _ _ _ (fun _ => True) (fun _ => False) rfl rfl HOA.out HRp.out.2.2 (fun _ _ h => h) (fun _ h => h.elim) (fun _ _ => trivial) HBx.out (below_size HBx.out) (by have := hsb; simp only [List.length_nil]; omega) ?_; intro vB wB hoB hbB hg_ hat_; rw [List.nil_append] at hoB; have HCx := Aside0.mk (Kd.R_step HCx.out fun k_ hk hlt => hg_.block k_ hlt (by rw [hk]; exact fun e => HNE.out e)); have HOB := Aside0.mk hoB; have HBx := Aside0.mk hbB; clear hoB hbB hg_ hat_; refine hK.out _ _ ⟨(blk_cell (blk_below BGd.out HBx.out) 0).trans rfl, (blk_cell (blk_below BGd.out HBx.out) 1).trans rfl⟩ (fun hHeld => ?_); clear hK K; refine norm_ (a' := ?_) ?_ ?_; rotate_left
     ·show Act.put _ (some 48) _ = _; exact zzS
     obtain ⟨AX, cX, eX⟩ := Kd.R_slice HCx.out; subst eX; refine one_ (i := 6) (N := some 51) (zM 10 255) rfl rfl (one_of HT_.out (by kernel_rfl)) (by decide) (fun K hK => ?_); refine Kd.R_append_rows_step (Kd.int .i64) (w0 := wd) wd.heap.size (by rfl) (.tmp 48) (.tmp 50) 26 3 (.int .i64 0) 8 rfl Try.underlying26 info3 rfl (by decide) (by omega) vB s [(j : Int)] _ _ _ (fun _ => True) (fun _ => False) rfl rfl HOB.out (Kd.R_reads' HCx.out).2.2 (fun _ _ h => h) (fun _ h => h.elim) (fun _ _ => trivial) HBx.out (below_size HBx.out) (by have := hsb; simp only [List.length_cons, List.length_nil]; omega) ?_; intro vD wD hoD hbD hg_ hat_; have HBx := Aside0.mk hbD; have hlD : (s ++ [(j : Int)]).length = s.length + 1 := List.length_append; obtain ⟨g, cD, eD, hg1, hg2, _⟩ := Kd.R_form hoD (by omega); subst eD; have HOD := Aside0.mk hoD; have HGD := Aside0.mk (show wd.heap.size ≤ g ∧ g < wD.heap.size from ⟨hg1, hg2⟩); clear hoD hbD hg_ hat_ hg1 hg2; refine hK.out _ _ ⟨(blk_cell (blk_below BGd.out HBx.out) 0).trans rfl, (blk_cell (blk_below BGd.out HBx.out) 1).trans rfl⟩ (fun hHeld => ?_); clear hK K; refine norm_ (a' := ?_) ?_ ?_; rotate_left
     ·show Act.put _ (some 51) _ = _; exact zzS
     refine one_ (i := 8) (N := some 53) (zM 10 511) rfl rfl (one_of HT_.out (by kernel_rfl)) (by decide) (fun K hK => ?_); refine goes_ Try.func63 (by kernel_rfl) rfl #[.agg #[.int .i64 (n : Int), .slice A0 es.length c0], .slice (some ⟨g, 0, none⟩) (s ++ [(j : Int)]).length cD, u2] (by rfl) rfl rfl zz22 ?_; have hTD := Kd.R_lower (Kd.R_tight rfl HOD.out) (below_size HBd.out); have h_ := IH.out (s ++ [(j : Int)]) (fun k_ => some k_ = (Value.slice (some ⟨g, 0, none⟩) (s ++ [(j : Int)]).length cD).ownBlock) (fun k_ => (ok k_ ∧ k_ ≠ gb) ∧ k_ ≠ g) (some ⟨g, 0, none⟩) cD u2 (out ++ ((Cf.dfsJ (spec_l09Boxes.cnt k (n : Int) es) r s.length s j).map (spec_l09Boxes.lf k)).filter (spec_l09Boxes.pr k (n : Int) es)) wD ?i1_3 ?i3_3 ?i2_3 hTD ?i4_3 ?i5_3 ?i6_3 (below_step HBd.out HBx.out) ?i8_3; (case i1_3 => rw [hlD]; have := HLEN.out; omega); (case i3_3 => rw [hlD]; omega); (case i2_3 => rw [hlD]; exact fun t ht => HANS.out t (Cf.dfs_sub _ _ _ _ HJN.out ht)); (case i4_3 => exact fun k_ hk h => h.2 (by simpa [Value.ownBlock] using hk)); (case i5_3 => exact fun k_ hk => ⟨⟨HFR.out k_ zz58, by have := HGW.out.2; have := HZd.out; have := HBx.out.size; omega⟩, by have := HGD.out; omega⟩); (case i6_3 => exact Kd.S_mono (Kd.S_below (Kd.S_bound HSd.out) HBx.out) fun k_ hk => ⟨hk.1, by have := hk.2.2.1; have := HGD.out; omega⟩); (case i8_3 => rw [hlD, List.length_append]; have h1 : (Cf.dfsJ (spec_l09Boxes.cnt k (n : Int) es) r s.length s j).length + (Cf.dfsB (spec_l09Boxes.cnt k (n : Int) es) r (s.length + 1) (s ++ [(j : Int)])).length ≤ (Cf.dfsB (spec_l09Boxes.cnt k (n : Int) es) (r + 1) s.length s).length := Cf.dfsJ_len (spec_l09Boxes.cnt k (n : Int) es) r s.length s HJN.out; have h2 := List.length_filter_le (spec_l09Boxes.pr k (n : Int) es) ((Cf.dfsJ (spec_l09Boxes.cnt k (n : Int) es) r s.length s j).map (spec_l09Boxes.lf k)); rw [List.length_map] at h2; have h3 := HL.out; omega); rw [hlD] at h_; (try rw [hlD]); refine h_.mono ?_; rintro e w5 ⟨⟨v5, rfl, hS5⟩, hB5, hK5⟩; have BG5 := Aside0.mk (blk_kept (blk_below BGd.out HBx.out) hK5 (fun h => h.1.2 rfl)); have HS5 := Aside0.mk hS5; have HB5 := Aside0.mk hB5; have HK5 := Aside0.mk (show Kept w w5 ok ∧ w1.heap.size ≤ w5.heap.size from ⟨(HKd.out.below HBx.out).then_ hK5 (fun k_ h => Or.inl h.1.1), by have := hK5.1; have := HBx.out.size; have := HZd.out; omega⟩); clear hS5 hB5 hK5 h_ hTD; refine ⟨_, rfl, ?_⟩; refine hK.out _ _ ⟨(blk_cell BG5.out 0).trans rfl, (blk_cell BG5.out 1).trans rfl⟩ (fun hHeld => ?_); clear hK K; refine norm_ (a' := ?_) ?_ ?_; rotate_left
     ·show Act.put _ (some 53) _ = _; exact zzS
     refine zQ 9 2 (zM 10 1023) ?_
     refine done_ (done_of HT_.out (by kernel_rfl)) ?_; (try go_wp2); go_roundw
     case rel =>
      refine ⟨j + 1, by go_num, ⟨HJN.out⟩, ⟨HB5.out, BG5.out⟩, ⟨?_⟩, HK5⟩; rw [Cf.dfsJ_succ, List.map_append, List.filter_append, ← List.append_assoc]; exact Kd.S_mono HS5.out fun k_ h => h.1
     case measure =>
      have := HJN.out; first | (simp [intOf]; done) | (simp [intOf]; omega)
   ·have d0 : decide ((j : Int) < mo) = false := decide_eq_false (by have := HCN2.out; omega); (have hjn : j = spec_l09Boxes.cnt k (n : Int) es s.length := by have := HJ.out; omega); have HJE := Aside0.mk hjn; clear hj hjn; go_wp2; go_ret; refine ⟨⟨_, rfl, ?_⟩, HBv.out, HKv.out.1⟩; have hS := HSv.out; rw [HJE.out, Cf.dfsJ_all] at hS; exact Kd.S_mono hS fun k_ h => h.1
def spec_ClassesOf.f (k : Nat) (a0 : Int) (es : List S57) : Option (List (List Int) × Bool) :=
 (spec_GraphOk.f k a0 es).bind fun t => if t = true then (spec_GroupOrder.f k a0 es).bind fun c => if c ≤ 400 then (spec_l09Boxes.f k a0 es).bind fun L => (spec_l09Sort.f k L).bind fun r => some (r, true) else some ([], false) else some ([], false)
theorem spec_ClassesOf.mono : ∀ a0 a1 k, LeO (spec_ClassesOf.f k a0 a1) (spec_ClassesOf.f (k + 1) a0 a1) := by
 intro a0 a1 k; unfold spec_ClassesOf.f; exact LeO.bind (spec_GraphOk.mono _ _ k) fun t => LeO.ite (LeO.bind (spec_GroupOrder.mono _ _ k) fun c => LeO.ite (LeO.bind (spec_l09Boxes.mono _ _ k) fun _ => LeO.bind (spec_l09Sort.mono _ k) fun _ => LeO.refl _) (LeO.refl _)) (LeO.refl _)
theorem spec_ClassesOf.calls (k : Nat) (aD : Int) (aH : Option Addr) (aG : Nat) (aC : List S57) (r1 : List (List Int)) (r2 : Bool) (w : World) (hr0_1 : Kd.C k57 w aH aC.length aC) (hc0_1 : aC.length ≤ aG) (h : spec_ClassesOf.f k aD aC = some (r1, r2)) :
  Calls Try.prog 24 #[.agg #[.int .i64 aD, .slice aH aC.length aG]] w fun e w' => ∃ v0_ : Value, e = .returned (.tuple #[v0_, .bool r2]) ∧ Kd.S (Kd.slice 3 (Kd.int .i64)) 26 w' w.heap.size (fun _ => True) v0_ r1 ∧ Below w.heap.size w w' := by
 have hu25 := Try.underlying25; have HE := zK_ hr0_1; have HC := zK_ hc0_1; clear hr0_1 hc0_1; unfold spec_ClassesOf.f at h; replace h := zO_ h; obtain ⟨t, ht, h⟩ := h; have HTT := zK_ ht; clear ht
 cases t with
 | false =>
  rw [if_neg (by simp)] at h; obtain ⟨rfl, rfl⟩ := Prod.mk.inj (Option.some.inj h); clear h; go_enter Try.func24, Try.ntmps24; (go_wp2_with (first | ((with_reducible refine gate_dst (N := 1) rfl ?_); refine box_event ?hg (N := 1) ?hd (cs := #[.int .i64 aD, .slice aH aC.length aG]) (t := 25) ?hr ?_; (case hd => rfl); (case hg => rfl); (case hr => exact zz9); intro gg hg w1 hbox hb; have BG1 := zK_ hbox; have HB1 := zK_ hb; have hz0 : w1.cell? ⟨gg, 0, none⟩ = some (.int .i64 aD) := (blk_cell BG1.out 0).trans rfl; have hz1 : w1.cell? ⟨gg, 1, none⟩ = some (.slice aH aC.length aG) := (blk_cell BG1.out 1).trans rfl; clear hg hbox hb))); refine (spec_GraphOk.calls k aD _ _ aC false _ (Kd.C_below HE.out HB1.out) HC.out HTT.out).mono ?_; rintro e w2 ⟨rfl, hb⟩; have BG2 := zK_ (blk_below BG1.out hb); have HB2 := zK_ (below_step HB1.out hb); clear hb hz0 hz1 BG1; go_wp2; (go_ret2); exact ⟨_, rfl, Kd.S_nil _ _ _ _ _, HB2.out⟩
 | true =>
  rw [if_pos rfl] at h; replace h := zO_ h; obtain ⟨c, hc, h⟩ := h; have HCT := zK_ hc; clear hc; by_cases hle : c ≤ 400; rotate_left
  ·rw [if_neg hle] at h; obtain ⟨rfl, rfl⟩ := Prod.mk.inj (Option.some.inj h); clear h; have d0 : decide (c > 400) = true := decide_eq_true (by omega); have d1 : decide (400 < c) = true := decide_eq_true (by omega); go_enter Try.func24, Try.ntmps24; (go_wp2_with (first | ((with_reducible refine gate_dst (N := 1) rfl ?_); refine box_event ?hg (N := 1) ?hd (cs := #[.int .i64 aD, .slice aH aC.length aG]) (t := 25) ?hr ?_; (case hd => rfl); (case hg => rfl); (case hr => exact zz9); intro gg hg w1 hbox hb; have BG1 := zK_ hbox; have HB1 := zK_ hb; have hz0 : w1.cell? ⟨gg, 0, none⟩ = some (.int .i64 aD) := (blk_cell BG1.out 0).trans rfl; have hz1 : w1.cell? ⟨gg, 1, none⟩ = some (.slice aH aC.length aG) := (blk_cell BG1.out 1).trans rfl; clear hg hbox hb))); refine (spec_GraphOk.calls k aD _ _ aC true _ (Kd.C_below HE.out HB1.out) HC.out HTT.out).mono ?_; rintro e w2 ⟨rfl, hb⟩; have BG2 := zK_ (blk_below BG1.out hb); have HB2 := zK_ (below_step HB1.out hb); clear hb hz0 hz1 BG1; have hz0 : w2.cell? ⟨gg, 0, none⟩ = some (.int .i64 aD) := (blk_cell BG2.out 0).trans rfl; have hz1 : w2.cell? ⟨gg, 1, none⟩ = some (.slice aH aC.length aG) := (blk_cell BG2.out 1).trans rfl; (go_wp2_with fail); refine (spec_GroupOrder.calls k aD _ _ aC c _ (Kd.C_below HE.out HB2.out) HC.out HCT.out).mono ?_; rintro e w3 ⟨rfl, hb⟩; have BG3 := zK_ (blk_below BG2.out hb); have HB3 := zK_ (below_step HB2.out hb); clear hb hz0 hz1 BG2; go_wp2; (go_ret2); exact ⟨_, rfl, Kd.S_nil _ _ _ _ _, HB3.out⟩
  rw [if_pos hle] at h; replace h := zO_ h; obtain ⟨L, hL, h⟩ := h; replace h := zO_ h; obtain ⟨r, hr, h⟩ := h; obtain ⟨rfl, rfl⟩ := Prod.mk.inj (Option.some.inj h); clear h; unfold spec_l09Boxes.f at hL; (split at hL); (case isFalse => cases hL); rename_i hokL; obtain ⟨⟨⟨hn0, hn6⟩, hV⟩, hbn⟩ := hokL; obtain ⟨n, rfl⟩ := Int.eq_ofNat_of_zero_le (show 0 ≤ aD by omega); unfold spec_l09Boxes.ok1 at hbn; rw [Int.toNat_natCast] at hV hbn hL; have hLe := Option.some.inj hL; have HLE := zK_ hLe; have HV := zK_ hV; have HBN := zK_ hbn; have HN := zK_ (show 1 ≤ n ∧ n ≤ 6 from by omega); have HSO := zK_ hr; have qA : (n : Int) ≤ 6 := hn6; have d0 : decide (c > 400) = false := decide_eq_false (by omega); have d1 : decide (400 < c) = false := decide_eq_false (by omega); clear hL hle hr hn0 hn6 hV hbn hLe; go_enter Try.func24, Try.ntmps24; (go_wp2_with (first | ((with_reducible refine gate_dst (N := 1) rfl ?_); refine box_event ?hg (N := 1) ?hd (cs := #[.int .i64 (n : Int), .slice aH aC.length aG]) (t := 25) ?hr ?_; (case hd => rfl); (case hg => rfl); (case hr => exact zz9); intro gg hg w1 hbox hb; have BG1 := zK_ hbox; have HB1 := zK_ hb; have hz0 : w1.cell? ⟨gg, 0, none⟩ = some (.int .i64 (n : Int)) := (blk_cell BG1.out 0).trans rfl; have hz1 : w1.cell? ⟨gg, 1, none⟩ = some (.slice aH aC.length aG) := (blk_cell BG1.out 1).trans rfl; clear hg hbox hb))); refine (spec_GraphOk.calls k (n : Int) _ _ aC true _ (Kd.C_below HE.out HB1.out) HC.out HTT.out).mono ?_; rintro e w2 ⟨rfl, hb⟩; have BG2 := zK_ (blk_below BG1.out hb); have HB2 := zK_ (below_step HB1.out hb); clear hb hz0 hz1 BG1; have hz0 : w2.cell? ⟨gg, 0, none⟩ = some (.int .i64 (n : Int)) := (blk_cell BG2.out 0).trans rfl; have hz1 : w2.cell? ⟨gg, 1, none⟩ = some (.slice aH aC.length aG) := (blk_cell BG2.out 1).trans rfl; (go_wp2_with fail); refine (spec_GroupOrder.calls k (n : Int) _ _ aC c _ (Kd.C_below HE.out HB2.out) HC.out HCT.out).mono ?_; rintro e w3 ⟨rfl, hb⟩; have BG3 := zK_ (blk_below BG2.out hb); have HB3 := zK_ (below_step HB2.out hb); clear hb hz0 hz1 BG2; have hz0 : w3.cell? ⟨gg, 0, none⟩ = some (.int .i64 (n : Int)) := (blk_cell BG3.out 0).trans rfl; have hz1 : w3.cell? ⟨gg, 1, none⟩ = some (.slice aH aC.length aG) := (blk_cell BG3.out 1).trans rfl; (go_wp2_with (first | ((with_reducible refine gate_dst (N := 13) rfl ?_); refine Kd.R_lit (w0 := w3) (Kd.int .i64) w3.heap.size 3 ?hg (N := 13) ?hd (xs := [(0 : Int)]) (inner := [.int .i64 0]) (ok := fun _ => True) (okp := fun _ => True) ?hr ?hp (fun _ hk => hk) trivial (Below.refl _ _) (Nat.le_refl _) (by simp) ?_; (case hd => rfl); (case hg => rfl); (case hr => exact zz9); (case hp => exact Kd.reps_scalar _); intro v13 w4 ho hb hg_ hnew_; obtain ⟨AP, cP, eP⟩ := Kd.R_slice ho; subst eP; have BM := zK_ (Kd.R_mono (Kd.R_bound ho) (ok' := fun k_ => w3.heap.size ≤ k_ ∧ k_ < w4.heap.size) fun k_ hk => ⟨hk.2.1, hk.2.2.1⟩); have HB4 := zK_ hb; clear ho hb hg_ hnew_))); have hpick := spec_l09Boxes.pick k n aH aG aC w3 HN.out.2 (Kd.C_below HE.out HB3.out) HC.out HV.out (n - 1) [0] (fun k_ => w3.heap.size ≤ k_ ∧ k_ < w4.heap.size) (fun k_ => w4.heap.size ≤ k_) AP cP (.slice none 0 0) [] w4 (by show 1 + (n - 1) = n; have := HN.out; omega) (by simp) HBN.out BM.out (fun k_ h1 h2 => by have h3 := h1.2; omega) (fun k_ h => h) (Kd.S_nil _ _ _ _ _) HB4.out (by show 0 + (Cf.dfsB (spec_l09Boxes.cnt k (n : Int) aC) (n - 1) 1 [0]).length ≤ _; have h1 := spec_l09Boxes.dfs_len (c := (spec_l09Boxes.cnt k (n : Int) aC)) (b := 24) (n - 1) 1 [0] (fun u h0 hu => by unfold spec_l09Boxes.cnt; have := HV.out u (by have := HN.out; omega); unfold mx; split <;> omega); have := Nat.pow_le_pow_right (n := 24) (show 0 < 24 by omega) (show n - 1 ≤ 5 by have := HN.out; omega); omega); rw [List.nil_append, show ((([0] : List Int).length : Nat)) = 1 from rfl, HLE.out] at hpick; refine hpick.mono ?_; rintro e w5 ⟨⟨v5, rfl, hS5⟩, hB5, hK5⟩; have HS5 := zK_ hS5; have HB5 := zK_ hB5; clear hS5 hB5 hK5 hpick hz0 hz1 BG3 BM; (try go_wp2_with fail); refine (spec_l09Sort.callsS k _ _ _ r w3 _ HB5.out HS5.out HSO.out).mono ?_; rintro e w9 ⟨v9, rfl, hS9, hb⟩; have HS9 := zK_ hS9; have HB9 := zK_ (below_step HB5.out hb); clear hS9 hb; go_wp2; (go_ret2); exact ⟨_, rfl, Kd.S_mono (Kd.S_lower HS9.out HB3.out.size) (fun _ _ => trivial), below_step HB3.out HB9.out⟩
mutual
def impl_connected.l0 : Nat → Int → List (S57) → Int → Int → Int → Option (Bool)
 | 0, _, _, _, _, _ => none
 | k + 1, x0, x1, x5, x8, x9 => if x9 < x8 then (impl_connected.l1 k x0 x1 x5 x8 x9 x1 (x1.length : Int) 0) else (if 0 ≤ x0 then (some (x5 == (wrap64 ((shl .i64 1 x0) - 1)))) else (none))
def impl_connected.l1 : Nat → Int → List (S57) → Int → Int → Int → List (S57) → Int → Int → Option (Bool)
 | 0, _, _, _, _, _, _, _, _ => none
 | k + 1, x0, x1, x5, x8, x9, eH, jV, iZ => if iZ < jV then (if 0 ≤ iZ then (if iZ < (eH.length : Int) then (if 0 ≤ ((rd_T57 eH iZ).f0) then (if (Go.bits .and .i64 (shr .i64 x5 ((rd_T57 eH iZ).f0)) 1) = 1 then (if 0 ≤ ((rd_T57 eH iZ).f1) then (impl_connected.l1 k x0 x1 (Go.bits .or .i64 x5 (Go.bits .or .i64 (shl .i64 1 ((rd_T57 eH iZ).f0)) (shl .i64 1 ((rd_T57 eH iZ).f1)))) x8 x9 eH jV (wrap64 (iZ + 1))) else (none)) else (if 0 ≤ ((rd_T57 eH iZ).f1) then (if (Go.bits .and .i64 (shr .i64 x5 ((rd_T57 eH iZ).f1)) 1) = 1 then (impl_connected.l1 k x0 x1 (Go.bits .or .i64 x5 (Go.bits .or .i64 (shl .i64 1 ((rd_T57 eH iZ).f0)) (shl .i64 1 ((rd_T57 eH iZ).f1)))) x8 x9 eH jV (wrap64 (iZ + 1))) else (impl_connected.l1 k x0 x1 x5 x8 x9 eH jV (wrap64 (iZ + 1)))) else (none))) else (none)) else (none)) else (none)) else (impl_connected.l0 k x0 x1 x5 x8 (wrap64 (x9 + 1)))
end
def impl_connected.f (k : Nat) (a0 : Int) (l1 : List (S57)) : Option (Bool) := impl_connected.l0 k a0 l1 1 a0 0
theorem impl_connected.mono_l : ∀ k, (∀ y0 y1 y2 y3 y4, LeO (impl_connected.l0 k y0 y1 y2 y3 y4) (impl_connected.l0 (k + 1) y0 y1 y2 y3 y4)) ∧ (∀ y0 y1 y2 y3 y4 y5 y6 y7, LeO (impl_connected.l1 k y0 y1 y2 y3 y4 y5 y6 y7) (impl_connected.l1 (k + 1) y0 y1 y2 y3 y4 y5 y6 y7))
 | 0 => ⟨fun _ _ _ _ _ r h => by simp [impl_connected.l0] at h, fun _ _ _ _ _ _ _ _ r h => by simp [impl_connected.l1] at h⟩
 | k + 1 => by
  obtain ⟨ih0, ih1⟩ := impl_connected.mono_l k
  refine ⟨?_, ?_⟩
  ·intro y0 y1 y2 y3 y4
   unfold impl_connected.l0
   exact zm1
  ·intro y0 y1 y2 y3 y4 y5 y6 y7
   unfold impl_connected.l1
   exact zm1
theorem impl_connected.mono : ∀ a0 a1 k, LeO (impl_connected.f k a0 a1) (impl_connected.f (k + 1) a0 a1) := by
 intro a0 a1 k; obtain ⟨ih0, ih1⟩ := impl_connected.mono_l k; unfold impl_connected.f; exact zm1
theorem impl_connected.calls (k : Nat) (a0 : Int) (A1 : Option Addr) (c1 : Nat) (l1 : List (S57)) (r : Bool) (w : World) (hr1 : Kd.C k57 w A1 l1.length l1) (hc1 : l1.length ≤ c1) (h : impl_connected.f k a0 l1 = some r) :
  Calls Try.prog 52 #[.int .i64 a0, .slice A1 l1.length c1] w fun e w' => e = .returned (.bool r) ∧ Below w.heap.size w w' := by
 have hu57 := Try.underlying57; have HR1 := zK_ hr1; have HC1 := zK_ hc1; clear hr1 hc1; have HB := zK_ (Below.refl w.heap.size w); have H : (impl_connected.l0 k a0 l1 1 a0 0) = some r := h; clear h; have H' := zK_ H; clear H; go_enter Try.func52, Try.ntmps52; go_wp2; (repeat (go_quiet (fail); try go_wp2)); (go_loopg [5, 9] k (fun kq v5 v9 w' => ∃ (aN : Int) (bR : Int), v5 = .int .i64 aN ∧ v9 = .int .i64 bR ∧ Aside0 (impl_connected.l0 kq a0 l1 aN a0 bR = some r) ∧ Aside0 (kq ≤ k) ∧ Aside0 (Below w.heap.size w w'))); case atStart => exact ⟨(1), (0), zz5, zz5, H', ⟨Nat.le_refl _⟩, ⟨zz1⟩⟩
 case round =>
  clear H'; (try clear c1); (try clear p2); obtain ⟨aN, bR, rfl, rfl, HA, HK1, HB⟩ := hrel
  cases gk with
  | zero => exact absurd HA.out (by simp [impl_connected.l0])
  | succ k1 =>
   have H := HA.out; clear HA; simp only [impl_connected.l0] at H; by_cases c3 : bR < a0; rotate_left
   ·rw [if_neg c3] at H; have dB := decide_eq_false c3; clear c3; by_cases c27 : 0 ≤ a0; rotate_left
    ·rw [if_neg c27] at H; exact absurd H (by simp)
    rw [if_pos c27] at H; have tA := eq_true c27; have BG : decide (0 ≤ a0) = true := decide_eq_true c27; clear c27; obtain ⟨mU, l7⟩ : ∃ j_ : Int, (shl .i64 1 a0) = j_ := ⟨_, rfl⟩; (replace H : (some (aN == (wrap64 ((mU) - 1)))) = some r := by first | (rw [l7] at H; exact H) | (simp only [l7] at H ⊢; exact H)); have oP : (IntKind.i64.wrap (1 * 2 ^ min a0.toNat 64)) = mU := l7; have oO : a0 ≤ 64 → (IntKind.i64.wrap (1 * 2 ^ a0.toNat)) = mU := shl_small l7; (have wQ : (IntKind.i64.wrap (2 ^ min a0.toNat 64)) = mU := by have h_ := oP; rw [Int.one_mul] at h_; exact h_); (have wP : a0 ≤ 64 → (IntKind.i64.wrap (2 ^ a0.toNat)) = mU := fun hle_ => by have h_ := oO hle_; rw [Int.one_mul] at h_; exact h_); have wN : (wrap64 (1 * 2 ^ min a0.toNat 64)) = mU := (i64_w _).symm.trans oP; (have wO : a0 ≤ 64 → (wrap64 (1 * 2 ^ a0.toNat)) = mU := fun h_ => (i64_w _).symm.trans (oO h_)); obtain rfl := Option.some.inj H; go_wp2; (repeat (go_quiet (fail); try go_wp2)); go_ret; exact ⟨by first | rfl | (simp [errW_none, errW_some] <;> rfl) | (simp only [← l7]; first | rfl | (simp [errW_none, errW_some] <;> rfl)) | (simp [*, errW_none, errW_some] <;> rfl), zz1⟩
   rw [if_pos c3] at H; have dB := decide_eq_true c3; clear c3; have H' := zK_ H; clear H; go_wp2; (repeat (go_quiet (fail); try go_wp2)); (go_loopg [5, 13] k1 (fun kq v5 v13 w' => ∃ (bN : Int) (bB : Int), v5 = .int .i64 bN ∧ v13 = .int .i64 bB ∧ Aside0 (impl_connected.l1 kq a0 l1 bN a0 bR l1 (l1.length : Int) bB = some r) ∧ Aside0 (kq ≤ k1) ∧ Aside0 (Below w.heap.size w w'))); case atStart => exact ⟨(aN), (0), zz5, zz5, H', ⟨Nat.le_refl _⟩, ⟨zz1⟩⟩
   case round =>
    clear H'; (try clear c1); (try clear p2); (try clear c3); (try clear dB); (try clear p2); obtain ⟨bN, bB, rfl, rfl, HA, HK2, HB⟩ := hrel
    cases gk with
    | zero => exact absurd HA.out (by simp [impl_connected.l1])
    | succ k2 =>
     have H := HA.out; clear HA; simp only [impl_connected.l1] at H; by_cases c4 : bB < (l1.length : Int); rotate_left
     ·rw [if_neg c4] at H; have cY := decide_eq_false c4; clear c4; have H' := zK_ H; clear H; go_wp2; (repeat (go_quiet (fail); try go_wp2)); go_roundg k2; (case measure => have := HK1.out; have := HK2.out; omega); case rel => exact ⟨(bN), (wrap64 (bR + 1)), zz5, zz5, H', ⟨zz50⟩, ⟨zz1⟩⟩
     rw [if_pos c4] at H; have cY := decide_eq_true c4; clear c4; by_cases c5 : 0 ≤ bB; rotate_left
     ·rw [if_neg c5] at H; exact absurd H (by simp)
     rw [if_pos c5] at H; have dF := decide_eq_true c5; clear c5; by_cases c6 : bB < (l1.length : Int); rotate_left
     ·rw [if_neg c6] at H; exact absurd H (by simp)
     rw [if_pos c6] at H; have eN := decide_eq_true c6; clear c6; by_cases c7 : 0 ≤ ((rd_T57 l1 bB).f0); rotate_left
     ·rw [if_neg c7] at H; exact absurd H (by simp)
     rw [if_pos c7] at H; have dL := eq_true c7; have kR : decide (0 ≤ ((rd_T57 l1 bB).f0)) = true := decide_eq_true c7; clear c7; obtain ⟨nC, l5⟩ : ∃ j_ : Int, (shr .i64 bN ((rd_T57 l1 bB).f0)) = j_ := ⟨_, rfl⟩; (replace H : (if (Go.bits .and .i64 (nC) 1) = 1 then (if 0 ≤ ((rd_T57 l1 bB).f1) then (impl_connected.l1 k2 a0 l1 (Go.bits .or .i64 bN (Go.bits .or .i64 (shl .i64 1 ((rd_T57 l1 bB).f0)) (shl .i64 1 ((rd_T57 l1 bB).f1)))) a0 bR l1 (l1.length : Int) (wrap64 (bB + 1))) else (none)) else (if 0 ≤ ((rd_T57 l1 bB).f1) then (if (Go.bits .and .i64 (shr .i64 bN ((rd_T57 l1 bB).f1)) 1) = 1 then (impl_connected.l1 k2 a0 l1 (Go.bits .or .i64 bN (Go.bits .or .i64 (shl .i64 1 ((rd_T57 l1 bB).f0)) (shl .i64 1 ((rd_T57 l1 bB).f1)))) a0 bR l1 (l1.length : Int) (wrap64 (bB + 1))) else (impl_connected.l1 k2 a0 l1 bN a0 bR l1 (l1.length : Int) (wrap64 (bB + 1)))) else (none))) = some r := by first | (rw [l5] at H; exact H) | (simp only [l5] at H ⊢; exact H)); have sA : (bN / 2 ^ min ((rd_T57 l1 bB).f0).toNat 64) = nC := l5; have AO : ((rd_T57 l1 bB).f0) ≤ 64 → (bN / 2 ^ ((rd_T57 l1 bB).f0).toNat) = nC := shr_small l5; by_cases c9 : (Go.bits .and .i64 (nC) 1) = 1
     ·rw [if_pos c9] at H; have fJ : ((Go.bits .and .i64 (nC) 1) == 1) = true := beq_iff_eq.mpr c9; have pA : ((Go.bits .and .i64 (nC) 1) != 1) = false := bne_eq_false_iff_eq.mpr c9; clear c9; have gN := eq_true (of_decide_eq_true zz3 : 0 ≤ ((rd_T57 l1 bB).f0)); obtain ⟨lB, mB⟩ : ∃ j_ : Int, (shl .i64 1 ((rd_T57 l1 bB).f0)) = j_ := ⟨_, rfl⟩; (replace H : (if 0 ≤ ((rd_T57 l1 bB).f1) then (impl_connected.l1 k2 a0 l1 (Go.bits .or .i64 bN (Go.bits .or .i64 (lB) (shl .i64 1 ((rd_T57 l1 bB).f1)))) a0 bR l1 (l1.length : Int) (wrap64 (bB + 1))) else (none)) = some r := by first | (rw [mB] at H; exact H) | (simp only [mB] at H ⊢; exact H)); have oZ : (IntKind.i64.wrap (1 * 2 ^ min ((rd_T57 l1 bB).f0).toNat 64)) = lB := mB; have oY : ((rd_T57 l1 bB).f0) ≤ 64 → (IntKind.i64.wrap (1 * 2 ^ ((rd_T57 l1 bB).f0).toNat)) = lB := shl_small mB; (have xT : (IntKind.i64.wrap (2 ^ min ((rd_T57 l1 bB).f0).toNat 64)) = lB := by have h_ := oZ; rw [Int.one_mul] at h_; exact h_); (have xS : ((rd_T57 l1 bB).f0) ≤ 64 → (IntKind.i64.wrap (2 ^ ((rd_T57 l1 bB).f0).toNat)) = lB := fun hle_ => by have h_ := oY hle_; rw [Int.one_mul] at h_; exact h_); have xQ : (wrap64 (1 * 2 ^ min ((rd_T57 l1 bB).f0).toNat 64)) = lB := (i64_w _).symm.trans oZ; (have xR : ((rd_T57 l1 bB).f0) ≤ 64 → (wrap64 (1 * 2 ^ ((rd_T57 l1 bB).f0).toNat)) = lB := fun h_ => (i64_w _).symm.trans (oY h_)); by_cases c12 : 0 ≤ ((rd_T57 l1 bB).f1); rotate_left
      ·rw [if_neg c12] at H; exact absurd H (by simp)
      rw [if_pos c12] at H; have jX := eq_true c12; have n5 : decide (0 ≤ ((rd_T57 l1 bB).f1)) = true := decide_eq_true c12; clear c12; obtain ⟨l4, mA⟩ : ∃ j_ : Int, (shl .i64 1 ((rd_T57 l1 bB).f1)) = j_ := ⟨_, rfl⟩; (replace H : (impl_connected.l1 k2 a0 l1 (Go.bits .or .i64 bN (Go.bits .or .i64 (lB) (l4))) a0 bR l1 (l1.length : Int) (wrap64 (bB + 1))) = some r := by first | (rw [mA] at H; exact H) | (simp only [mA] at H ⊢; exact H)); have oX : (IntKind.i64.wrap (1 * 2 ^ min ((rd_T57 l1 bB).f1).toNat 64)) = l4 := mA; have oW : ((rd_T57 l1 bB).f1) ≤ 64 → (IntKind.i64.wrap (1 * 2 ^ ((rd_T57 l1 bB).f1).toNat)) = l4 := shl_small mA; (have xM : (IntKind.i64.wrap (2 ^ min ((rd_T57 l1 bB).f1).toNat 64)) = l4 := by have h_ := oX; rw [Int.one_mul] at h_; exact h_); (have xL : ((rd_T57 l1 bB).f1) ≤ 64 → (IntKind.i64.wrap (2 ^ ((rd_T57 l1 bB).f1).toNat)) = l4 := fun hle_ => by have h_ := oW hle_; rw [Int.one_mul] at h_; exact h_); have xJ : (wrap64 (1 * 2 ^ min ((rd_T57 l1 bB).f1).toNat 64)) = l4 := (i64_w _).symm.trans oX; (have xK : ((rd_T57 l1 bB).f1) ≤ 64 → (wrap64 (1 * 2 ^ ((rd_T57 l1 bB).f1).toNat)) = l4 := fun h_ => (i64_w _).symm.trans (oW h_)); have H' := zK_ H; clear H; have p101 : 0 ≤ (bB : Int) := of_decide_eq_true zz3; have q101 : bB < (l1.length : Int) := of_decide_eq_true zz3; obtain ⟨cF, e101, a8, cI⟩ := at_T57 HR1.out bB p101 q101; cases e101; replace a8 := (HB.out.cell (World.block_lt_of_cell? w _ a8)).trans a8; replace cI := (HB.out.cell (World.block_lt_of_cell? w _ cI)).trans cI; replace p101 := eq_true p101; replace q101 := eq_true q101; (go_wp2_with (first | ((with_reducible refine gate_dst (N := 7) rfl ?_); refine box_event ?hg (N := 7) ?hd (cs := #[.int .i64 0, .int .i64 0]) (t := 57) ?hr ?_; (case hd => rfl); (case hg => rfl); (case hr => exact zz9); intro aZ hg w14 hbox hb; have n_ := zA4 (below_step zz1 hb) hbox (zz10 : w.heap.size ≤ aZ) (zz10 : w.heap.size ≤ aZ); clear HB; obtain ⟨HB, aT, GW102, GE102⟩ := n_; clear hb hbox hg; have gK := zC20 aT; have gJ := zC21 aT; have gI := blk_frozen aT.out 0; have gH := blk_frozen aT.out 1))); (repeat (go_quiet (first | ((with_reducible refine gate_dst (N := 7) rfl ?_); refine box_event ?hg (N := 7) ?hd (cs := #[.int .i64 0, .int .i64 0]) (t := 57) ?hr ?_; (case hd => rfl); (case hg => rfl); (case hr => exact zz9); intro aZ hg w14 hbox hb; have n_ := zA4 (below_step zz1 hb) hbox (zz10 : w.heap.size ≤ aZ) (zz10 : w.heap.size ≤ aZ); clear HB; obtain ⟨HB, aT, GW102, GE102⟩ := n_; clear hb hbox hg; have gK := zC20 aT; have gJ := zC21 aT; have gI := blk_frozen aT.out 0; have gH := blk_frozen aT.out 1)); try go_wp2_with (first | ((with_reducible refine gate_dst (N := 7) rfl ?_); refine box_event ?hg (N := 7) ?hd (cs := #[.int .i64 0, .int .i64 0]) (t := 57) ?hr ?_; (case hd => rfl); (case hg => rfl); (case hr => exact zz9); intro aZ hg w14 hbox hb; have n_ := zA4 (below_step zz1 hb) hbox (zz10 : w.heap.size ≤ aZ) (zz10 : w.heap.size ≤ aZ); clear HB; obtain ⟨HB, aT, GW102, GE102⟩ := n_; clear hb hbox hg; have gK := zC20 aT; have gJ := zC21 aT; have gI := blk_frozen aT.out 0; have gH := blk_frozen aT.out 1)))); go_roundg k2; (case measure => have := HK1.out; have := HK2.out; omega); case rel => exact ⟨(Go.bits .or .i64 bN (Go.bits .or .i64 (lB) (l4))), (wrap64 (bB + 1)), (by first | rfl | (simp; done) | (simp only [← mB, ← mA] <;> (first | rfl | simp)) | (simp [*]; done)), zz5, H', ⟨zz50⟩, ⟨zz60⟩⟩
     rw [if_neg c9] at H; have fJ : ((Go.bits .and .i64 (nC) 1) == 1) = false := beq_eq_false_iff_ne.mpr c9; have pA : ((Go.bits .and .i64 (nC) 1) != 1) = true := bne_iff_ne.mpr c9; by_cases c16 : 0 ≤ ((rd_T57 l1 bB).f1); rotate_left
     ·rw [if_neg c16] at H; exact absurd H (by simp)
     rw [if_pos c16] at H; have iE := eq_true c16; have n4 : decide (0 ≤ ((rd_T57 l1 bB).f1)) = true := decide_eq_true c16; clear c16; obtain ⟨dA, fI⟩ : ∃ j_ : Int, (shr .i64 bN ((rd_T57 l1 bB).f1)) = j_ := ⟨_, rfl⟩; (replace H : (if (Go.bits .and .i64 (dA) 1) = 1 then (impl_connected.l1 k2 a0 l1 (Go.bits .or .i64 bN (Go.bits .or .i64 (shl .i64 1 ((rd_T57 l1 bB).f0)) (shl .i64 1 ((rd_T57 l1 bB).f1)))) a0 bR l1 (l1.length : Int) (wrap64 (bB + 1))) else (impl_connected.l1 k2 a0 l1 bN a0 bR l1 (l1.length : Int) (wrap64 (bB + 1)))) = some r := by first | (rw [fI] at H; exact H) | (simp only [fI] at H ⊢; exact H)); have lD : (bN / 2 ^ min ((rd_T57 l1 bB).f1).toNat 64) = dA := fI; have mX : ((rd_T57 l1 bB).f1) ≤ 64 → (bN / 2 ^ ((rd_T57 l1 bB).f1).toNat) = dA := shr_small fI; by_cases c18 : (Go.bits .and .i64 (dA) 1) = 1; rotate_left
     ·rw [if_neg c18] at H; have iD : ((Go.bits .and .i64 (dA) 1) == 1) = false := beq_eq_false_iff_ne.mpr c18; have nY : ((Go.bits .and .i64 (dA) 1) != 1) = true := bne_iff_ne.mpr c18; have H' := zK_ H; clear H; have p101 : 0 ≤ (bB : Int) := of_decide_eq_true zz3; have q101 : bB < (l1.length : Int) := of_decide_eq_true zz3; obtain ⟨cF, e101, a8, cI⟩ := at_T57 HR1.out bB p101 q101; cases e101; replace a8 := (HB.out.cell (World.block_lt_of_cell? w _ a8)).trans a8; replace cI := (HB.out.cell (World.block_lt_of_cell? w _ cI)).trans cI; replace p101 := eq_true p101; replace q101 := eq_true q101; (go_wp2_with (first | ((with_reducible refine gate_dst (N := 7) rfl ?_); refine box_event ?hg (N := 7) ?hd (cs := #[.int .i64 0, .int .i64 0]) (t := 57) ?hr ?_; (case hd => rfl); (case hg => rfl); (case hr => exact zz9); intro aZ hg w25 hbox hb; have n_ := zA4 (below_step zz1 hb) hbox (zz10 : w.heap.size ≤ aZ) (zz10 : w.heap.size ≤ aZ); clear HB; obtain ⟨HB, aT, GW102, GE102⟩ := n_; clear hb hbox hg; have iP := zC20 aT; have iO := zC21 aT; have iL := blk_frozen aT.out 0; have iK := blk_frozen aT.out 1))); (repeat (go_quiet (first | ((with_reducible refine gate_dst (N := 7) rfl ?_); refine box_event ?hg (N := 7) ?hd (cs := #[.int .i64 0, .int .i64 0]) (t := 57) ?hr ?_; (case hd => rfl); (case hg => rfl); (case hr => exact zz9); intro aZ hg w25 hbox hb; have n_ := zA4 (below_step zz1 hb) hbox (zz10 : w.heap.size ≤ aZ) (zz10 : w.heap.size ≤ aZ); clear HB; obtain ⟨HB, aT, GW102, GE102⟩ := n_; clear hb hbox hg; have iP := zC20 aT; have iO := zC21 aT; have iL := blk_frozen aT.out 0; have iK := blk_frozen aT.out 1)); try go_wp2_with (first | ((with_reducible refine gate_dst (N := 7) rfl ?_); refine box_event ?hg (N := 7) ?hd (cs := #[.int .i64 0, .int .i64 0]) (t := 57) ?hr ?_; (case hd => rfl); (case hg => rfl); (case hr => exact zz9); intro aZ hg w25 hbox hb; have n_ := zA4 (below_step zz1 hb) hbox (zz10 : w.heap.size ≤ aZ) (zz10 : w.heap.size ≤ aZ); clear HB; obtain ⟨HB, aT, GW102, GE102⟩ := n_; clear hb hbox hg; have iP := zC20 aT; have iO := zC21 aT; have iL := blk_frozen aT.out 0; have iK := blk_frozen aT.out 1)))); go_roundg k2; (case measure => have := HK1.out; have := HK2.out; omega); case rel => exact ⟨(bN), (wrap64 (bB + 1)), zz5, zz5, H', ⟨zz50⟩, ⟨zz60⟩⟩
     rw [if_pos c18] at H; have iD : ((Go.bits .and .i64 (dA) 1) == 1) = true := beq_iff_eq.mpr c18; have nY : ((Go.bits .and .i64 (dA) 1) != 1) = false := bne_eq_false_iff_eq.mpr c18; clear c18; have pF := eq_true (of_decide_eq_true zz3 : 0 ≤ ((rd_T57 l1 bB).f0)); obtain ⟨lA, l9⟩ : ∃ j_ : Int, (shl .i64 1 ((rd_T57 l1 bB).f0)) = j_ := ⟨_, rfl⟩; (replace H : (impl_connected.l1 k2 a0 l1 (Go.bits .or .i64 bN (Go.bits .or .i64 (lA) (shl .i64 1 ((rd_T57 l1 bB).f1)))) a0 bR l1 (l1.length : Int) (wrap64 (bB + 1))) = some r := by first | (rw [l9] at H; exact H) | (simp only [l9] at H ⊢; exact H)); have oV : (IntKind.i64.wrap (1 * 2 ^ min ((rd_T57 l1 bB).f0).toNat 64)) = lA := l9; have oU : ((rd_T57 l1 bB).f0) ≤ 64 → (IntKind.i64.wrap (1 * 2 ^ ((rd_T57 l1 bB).f0).toNat)) = lA := shl_small l9; (have xB : (IntKind.i64.wrap (2 ^ min ((rd_T57 l1 bB).f0).toNat 64)) = lA := by have h_ := oV; rw [Int.one_mul] at h_; exact h_); (have xA : ((rd_T57 l1 bB).f0) ≤ 64 → (IntKind.i64.wrap (2 ^ ((rd_T57 l1 bB).f0).toNat)) = lA := fun hle_ => by have h_ := oU hle_; rw [Int.one_mul] at h_; exact h_); have wY : (wrap64 (1 * 2 ^ min ((rd_T57 l1 bB).f0).toNat 64)) = lA := (i64_w _).symm.trans oV; (have wZ : ((rd_T57 l1 bB).f0) ≤ 64 → (wrap64 (1 * 2 ^ ((rd_T57 l1 bB).f0).toNat)) = lA := fun h_ => (i64_w _).symm.trans (oU h_)); have iV := eq_true (of_decide_eq_true zz3 : 0 ≤ ((rd_T57 l1 bB).f1)); obtain ⟨l3, l8⟩ : ∃ j_ : Int, (shl .i64 1 ((rd_T57 l1 bB).f1)) = j_ := ⟨_, rfl⟩; (replace H : (impl_connected.l1 k2 a0 l1 (Go.bits .or .i64 bN (Go.bits .or .i64 (lA) (l3))) a0 bR l1 (l1.length : Int) (wrap64 (bB + 1))) = some r := by first | (rw [l8] at H; exact H) | (simp only [l8] at H ⊢; exact H)); have oT : (IntKind.i64.wrap (1 * 2 ^ min ((rd_T57 l1 bB).f1).toNat 64)) = l3 := l8; have oS : ((rd_T57 l1 bB).f1) ≤ 64 → (IntKind.i64.wrap (1 * 2 ^ ((rd_T57 l1 bB).f1).toNat)) = l3 := shl_small l8; (have wW : (IntKind.i64.wrap (2 ^ min ((rd_T57 l1 bB).f1).toNat 64)) = l3 := by have h_ := oT; rw [Int.one_mul] at h_; exact h_); (have wV : ((rd_T57 l1 bB).f1) ≤ 64 → (IntKind.i64.wrap (2 ^ ((rd_T57 l1 bB).f1).toNat)) = l3 := fun hle_ => by have h_ := oS hle_; rw [Int.one_mul] at h_; exact h_); have wT : (wrap64 (1 * 2 ^ min ((rd_T57 l1 bB).f1).toNat 64)) = l3 := (i64_w _).symm.trans oT; (have wU : ((rd_T57 l1 bB).f1) ≤ 64 → (wrap64 (1 * 2 ^ ((rd_T57 l1 bB).f1).toNat)) = l3 := fun h_ => (i64_w _).symm.trans (oS h_)); have H' := zK_ H; clear H; have p101 : 0 ≤ (bB : Int) := of_decide_eq_true zz3; have q101 : bB < (l1.length : Int) := of_decide_eq_true zz3; obtain ⟨cF, e101, a8, cI⟩ := at_T57 HR1.out bB p101 q101; cases e101; replace a8 := (HB.out.cell (World.block_lt_of_cell? w _ a8)).trans a8; replace cI := (HB.out.cell (World.block_lt_of_cell? w _ cI)).trans cI; replace p101 := eq_true p101; replace q101 := eq_true q101; (go_wp2_with (first | ((with_reducible refine gate_dst (N := 7) rfl ?_); refine box_event ?hg (N := 7) ?hd (cs := #[.int .i64 0, .int .i64 0]) (t := 57) ?hr ?_; (case hd => rfl); (case hg => rfl); (case hr => exact zz9); intro aZ hg w23 hbox hb; have n_ := zA4 (below_step zz1 hb) hbox (zz10 : w.heap.size ≤ aZ) (zz10 : w.heap.size ≤ aZ); clear HB; obtain ⟨HB, aT, GW102, GE102⟩ := n_; clear hb hbox hg; have jG := zC20 aT; have jF := zC21 aT; have i8 := blk_frozen aT.out 0; have i7 := blk_frozen aT.out 1))); (repeat (go_quiet (first | ((with_reducible refine gate_dst (N := 7) rfl ?_); refine box_event ?hg (N := 7) ?hd (cs := #[.int .i64 0, .int .i64 0]) (t := 57) ?hr ?_; (case hd => rfl); (case hg => rfl); (case hr => exact zz9); intro aZ hg w23 hbox hb; have n_ := zA4 (below_step zz1 hb) hbox (zz10 : w.heap.size ≤ aZ) (zz10 : w.heap.size ≤ aZ); clear HB; obtain ⟨HB, aT, GW102, GE102⟩ := n_; clear hb hbox hg; have jG := zC20 aT; have jF := zC21 aT; have i8 := blk_frozen aT.out 0; have i7 := blk_frozen aT.out 1)); try go_wp2_with (first | ((with_reducible refine gate_dst (N := 7) rfl ?_); refine box_event ?hg (N := 7) ?hd (cs := #[.int .i64 0, .int .i64 0]) (t := 57) ?hr ?_; (case hd => rfl); (case hg => rfl); (case hr => exact zz9); intro aZ hg w23 hbox hb; have n_ := zA4 (below_step zz1 hb) hbox (zz10 : w.heap.size ≤ aZ) (zz10 : w.heap.size ≤ aZ); clear HB; obtain ⟨HB, aT, GW102, GE102⟩ := n_; clear hb hbox hg; have jG := zC20 aT; have jF := zC21 aT; have i8 := blk_frozen aT.out 0; have i7 := blk_frozen aT.out 1)))); go_roundg k2; (case measure => have := HK1.out; have := HK2.out; omega); case rel => exact ⟨(Go.bits .or .i64 bN (Go.bits .or .i64 (lA) (l3))), (wrap64 (bB + 1)), (by first | rfl | (simp; done) | (simp only [← l9, ← l8] <;> (first | rfl | simp)) | (simp [*]; done)), zz5, H', ⟨zz50⟩, ⟨zz60⟩⟩
end Go.Proofs.Ytnbljcgdgblgoaa.P
end

section
namespace Go.Proofs.Ytnbljcgdgblgoaa.P
open Go.RowKit Go.Proofs.YtnbljcgdgblgoaaW.PrintWords Go.Proofs.YtnbljcgdgblgoaaW.PrintLast Go.Proofs.YtnbljcgdgblgoaaW.PrintMore
attribute [local go_sem] max2_int min2_int max_two min_two max_three min_three max_four min_four
set_option linter.unusedVariables false
set_option linter.unusedSimpArgs false
def impl_within.f (a0 : Int) (a1 : Int) (a2 : Int) : Option (Bool) := if a0 ≥ a1 then (some (decide (a0 ≤ a2))) else (some false)
theorem impl_within.calls (a0 : Int) (a1 : Int) (a2 : Int) (r : Bool) (w : World) (h : impl_within.f a0 a1 a2 = some r) :
  Calls Try.prog 39 #[.int .i64 a0, .int .i64 a1, .int .i64 a2] w fun e w' => e = .returned (.bool r) ∧ Drawn0 w w' := by
 have H : (if a0 ≥ a1 then (some (decide (a0 ≤ a2))) else (some false)) = some r := h; clear h; by_cases c4 : a0 ≥ a1
 ·rw [if_pos c4] at H; have cY : decide (a1 ≤ a0) = true := decide_eq_true c4; clear c4; obtain rfl := Option.some.inj H; go_enter Try.func39, Try.ntmps39; go_wp2; go_ret; exact ⟨zz5, by repeat (first | exact Drawn0.refl _ | apply Drawn0.step)⟩
 rw [if_neg c4] at H; have cY : decide (a1 ≤ a0) = false := decide_eq_false c4; clear c4; obtain rfl := Option.some.inj H; go_enter Try.func39, Try.ntmps39; go_wp2; go_ret; exact ⟨zz5, by repeat (first | exact Drawn0.refl _ | apply Drawn0.step)⟩
mutual
def impl_EdgesOk.j0 : Nat → Bool → Int → List (S57) → Option (Bool)
 | 0, _, _, _ => none
 | k + 1, pX, aM, aJ => if pX = true then (some false) else (impl_EdgesOk.l0 k aJ (aJ.length : Int) 0 aM aJ)
def impl_EdgesOk.l0 : Nat → List (S57) → Int → Int → Int → List (S57) → Option (Bool)
 | 0, _, _, _, _, _ => none
 | k + 1, gZ, g9, g8, aM, aJ => if g8 < g9 then (if 0 ≤ g8 then (if g8 < (gZ.length : Int) then (if ((rd_T57 gZ g8).f0) < 0 then (some false) else (if ((rd_T57 gZ g8).f0) ≥ ((rd_T57 gZ g8).f1) then (some false) else (if ((rd_T57 gZ g8).f1) ≥ aM then (some false) else (impl_EdgesOk.l0 k gZ g9 (wrap64 (g8 + 1)) aM aJ)))) else (none)) else (none)) else (some true)
end
def impl_EdgesOk.f (k : Nat) (aD : Int) (aC : List (S57)) : Option (Bool) := (impl_within.f aD 1 6).bind fun bA => (if bA = true then (impl_EdgesOk.j0 k (decide ((aC.length : Int) > 12)) aD aC) else (impl_EdgesOk.j0 k true aD aC))
theorem impl_EdgesOk.mono_l : ∀ k, (∀ y0 y1 y2, LeO (impl_EdgesOk.j0 k y0 y1 y2) (impl_EdgesOk.j0 (k + 1) y0 y1 y2)) ∧ (∀ y0 y1 y2 y3 y4, LeO (impl_EdgesOk.l0 k y0 y1 y2 y3 y4) (impl_EdgesOk.l0 (k + 1) y0 y1 y2 y3 y4))
 | 0 => ⟨fun _ _ _ r h => by simp [impl_EdgesOk.j0] at h, fun _ _ _ _ _ r h => by simp [impl_EdgesOk.l0] at h⟩
 | k + 1 => by
  obtain ⟨ih0, ih1⟩ := impl_EdgesOk.mono_l k
  refine ⟨?_, ?_⟩
  ·intro y0 y1 y2
   unfold impl_EdgesOk.j0
   exact zm1
  ·intro y0 y1 y2 y3 y4
   unfold impl_EdgesOk.l0
   exact zm1
theorem impl_EdgesOk.mono : ∀ a0 a1 k, LeO (impl_EdgesOk.f k a0 a1) (impl_EdgesOk.f (k + 1) a0 a1) := by
 intro a0 a1 k; obtain ⟨ih0, ih1⟩ := impl_EdgesOk.mono_l k; unfold impl_EdgesOk.f; exact zm1
theorem impl_EdgesOk.calls (k : Nat) (aD : Int) (aH : Option Addr) (aG : Nat) (aC : List (S57)) (r : Bool) (w : World) (hr0_1 : Kd.C k57 w aH aC.length aC) (hc0_1 : aC.length ≤ aG) (h : impl_EdgesOk.f k aD aC = some r) :
  Calls Try.prog 90 #[.agg #[.int .i64 aD, .slice aH aC.length aG]] w fun e w' => e = .returned (.bool r) ∧ Below w.heap.size w w' := by
 have hu25 := Try.underlying25; have hu57 := Try.underlying57; have bM := zK_ hr0_1; have bG := zK_ hc0_1; clear hr0_1 hc0_1; have HB := zK_ (Below.refl w.heap.size w); have H : ((impl_within.f aD 1 6).bind fun bA => (if bA = true then (impl_EdgesOk.j0 k (decide ((aC.length : Int) > 12)) aD aC) else (impl_EdgesOk.j0 k true aD aC))) = some r := h; clear h; have HC2 := zK_ H; clear H; go_enter Try.func90, Try.ntmps90; (go_upto_region 1 with (first | ((with_reducible refine gate_dst (N := 1) rfl ?_); (try (refine gate_guard (by rfl) ?_; dsimp only)); refine box_event ?hg (N := 1) ?hd (cs := #[.int .i64 aD, .slice aH aC.length aG]) (t := 25) ?hr ?_; (case hd => rfl); (case hg => rfl); (case hr => exact zz9); intro aE hg w3 hbox hb; have n_ := zA4 (below_step zz1 hb) hbox (zz10 : w.heap.size ≤ aE) (zz10 : w.heap.size ≤ aE); clear HB; obtain ⟨HB, aA, GW101, GE101⟩ := n_; clear hb hbox hg))); (try simp only [Act.put, List.setIfInBounds_toArray, List.set_cons_zero, List.set_cons_succ]); go_cut [14] (fun v14 wc => ∃ (kq : Nat) (gQ : Bool), v14 = .bool gQ ∧ Aside0 (impl_EdgesOk.j0 kq gQ aD aC = some r) ∧ Aside0 (kq ≤ k) ∧ Aside0 (wc.heap[aE]? = some (.cells #[.int .i64 aD, (.slice aH aC.length aG)] 25 (0, 0))) ∧ Aside0 (Below w.heap.size w wc))
 case first =>
  have H := HC2.out; clear HC2; obtain ⟨bA, A40, H⟩ := zO_ H; (try dsimp only at H); have A4 := zK_ A40; clear A40; by_cases c5 : bA = true
  ·subst c5; rw [if_pos rfl] at H; have H' := zK_ H; clear H; have gD := zC20 aA; have gC := zC21 aA; have f8 := blk_frozen aA.out 0; have f7 := blk_frozen aA.out 1; (go_wp2_with (first | ((with_reducible refine gate_callee (f := 39) rfl ?_); refine goesL_ (some 7) rfl rfl Try.func39 (by kernel_rfl) rfl #[.int .i64 aD, .int .i64 1, .int .i64 6] rfl zz4 ?_; (with_reducible refine (impl_within.calls aD 1 6 true _ A4.out).mono ?_); rintro e w' ⟨rfl, ⟨nd, rfl⟩⟩; refine ⟨_, rfl, ?_⟩))); (go_meet); case rel => exact ⟨_, (decide ((aC.length : Int) > 12)), zz5, H', ⟨by first | omega | exact Nat.le_refl _⟩, ⟨zz2⟩, ⟨zz0⟩⟩
  replace c5 := Bool.eq_false_iff.mpr c5; subst c5; rw [if_neg (show ¬ (false = true) by decide)] at H; have H' := zK_ H; clear H; have eE := zC20 aA; have d9 := zC21 aA; have dX := blk_frozen aA.out 0; have dW := blk_frozen aA.out 1; (go_wp2_with (first | ((with_reducible refine gate_callee (f := 39) rfl ?_); refine goesL_ (some 7) rfl rfl Try.func39 (by kernel_rfl) rfl #[.int .i64 aD, .int .i64 1, .int .i64 6] rfl zz4 ?_; (with_reducible refine (impl_within.calls aD 1 6 false _ A4.out).mono ?_); rintro e w' ⟨rfl, ⟨nd, rfl⟩⟩; refine ⟨_, rfl, ?_⟩))); (go_meet); case rel => exact ⟨_, (true), zz5, H', ⟨by first | omega | exact Nat.le_refl _⟩, ⟨zz2⟩, ⟨zz0⟩⟩
 case rest =>
  clear HC2; (try clear p2); (try clear c3); (try clear c5); (try clear gD); (try clear gC); (try clear eE); (try clear d9); (try clear f8); (try clear f7); (try clear dX); (try clear dW); obtain ⟨kq, gQ, rfl, HA, HJ1, aA, HB⟩ := hcut
  cases kq with
  | zero => exact absurd HA.out (by simp [impl_EdgesOk.j0])
  | succ kj1 =>
   have H := HA.out; clear HA; simp only [impl_EdgesOk.j0] at H; by_cases c8 : gQ = true
   ·subst c8; rw [if_pos rfl] at H; obtain rfl := Option.some.inj H; go_wp2; go_ret; exact ⟨zz7, zz0⟩
   replace c8 := Bool.eq_false_iff.mpr c8; subst c8; rw [if_neg (show ¬ (false = true) by decide)] at H; have H' := zK_ H; clear H; have d8 := zC20 aA; have d7 := zC21 aA; have dV := blk_frozen aA.out 0; have dU := blk_frozen aA.out 1; go_wp2; (go_loopg [18] kj1 (fun kq v18 w' => ∃ (bU : Int), v18 = .int .i64 bU ∧ Aside0 (impl_EdgesOk.l0 kq aC (aC.length : Int) bU aD aC = some r) ∧ Aside0 (kq ≤ kj1) ∧ Aside0 (w'.heap[aE]? = some (.cells #[.int .i64 aD, (.slice aH aC.length aG)] 25 (0, 0))) ∧ Aside0 (Below w.heap.size w w'))); case atStart => exact ⟨(0), zz5, H', ⟨Nat.le_refl _⟩, ⟨zz2⟩, ⟨zz0⟩⟩
   case round =>
    clear H'; (try clear p2); (try clear c3); (try clear c5); (try clear c8); (try clear c9); (try clear gD); (try clear gC); (try clear eE); (try clear d9); (try clear d8); (try clear d7); (try clear f8); (try clear f7); (try clear dX); (try clear dW); (try clear dV); (try clear dU); (try clear p2); obtain ⟨bU, rfl, HA, HK2, aA, HB⟩ := hrel
    cases gk with
    | zero => exact absurd HA.out (by simp [impl_EdgesOk.l0])
    | succ k2 =>
     have H := HA.out; clear HA; simp only [impl_EdgesOk.l0] at H; by_cases c10 : bU < (aC.length : Int); rotate_left
     ·rw [if_neg c10] at H; have gN := decide_eq_false c10; clear c10; obtain rfl := Option.some.inj H; go_wp2; go_ret; exact ⟨zz7, zz0⟩
     rw [if_pos c10] at H; have gN := decide_eq_true c10; clear c10; by_cases c11 : 0 ≤ bU; rotate_left
     ·rw [if_neg c11] at H; exact absurd H (by simp)
     rw [if_pos c11] at H; have jY := decide_eq_true c11; clear c11; by_cases c12 : bU < (aC.length : Int); rotate_left
     ·rw [if_neg c12] at H; exact absurd H (by simp)
     rw [if_pos c12] at H; have jX := decide_eq_true c12; clear c12; by_cases c13 : ((rd_T57 aC bU).f0) < 0
     ·rw [if_pos c13] at H; have iW := decide_eq_true c13; clear c13; obtain rfl := Option.some.inj H; have p103 : 0 ≤ (bU : Int) := of_decide_eq_true zz3; have q103 : bU < (aC.length : Int) := of_decide_eq_true zz3; obtain ⟨bD, e103, aQ, a6⟩ := at_T57 bM.out bU p103 q103; cases e103; replace aQ := (HB.out.cell (World.block_lt_of_cell? w _ aQ)).trans aQ; replace a6 := (HB.out.cell (World.block_lt_of_cell? w _ a6)).trans a6; replace p103 := eq_true p103; replace q103 := eq_true q103; (go_wp2_with (first | ((with_reducible refine gate_dst (N := 4) rfl ?_); (try (refine gate_guard (by rfl) ?_; dsimp only)); refine box_event ?hg (N := 4) ?hd (cs := #[.int .i64 0, .int .i64 0]) (t := 57) ?hr ?_; (case hd => rfl); (case hg => rfl); (case hr => exact zz9); intro aW hg w14 hbox hb; have n_ := zA7 (blk_below (g := aE) (o := .cells #[.int .i64 aD, .slice (some bD) aC.length aG] 25 (0, 0)) zz2 hb) (below_step zz0 hb) hbox (zz13 : w.heap.size ≤ aW) (zz13 : w.heap.size ≤ aW) (zz16 : aE ≠ aW) (zz17 : aW ≠ aE); clear aA HB; obtain ⟨aA, HB, aY, GW104, GE104, bH, bI⟩ := n_; clear hb hbox hg; have AM := bI.out; have zS := bH.out; have jK := zC20 aY; have jJ := zC21 aY; have jC := blk_frozen aY.out 0; have jB := blk_frozen aY.out 1))); go_ret; exact ⟨zz7, zz11⟩
     rw [if_neg c13] at H; have iW := decide_eq_false c13; clear c13; by_cases c17 : ((rd_T57 aC bU).f0) ≥ ((rd_T57 aC bU).f1)
     ·rw [if_pos c17] at H; have jN : decide (((rd_T57 aC bU).f1) ≤ ((rd_T57 aC bU).f0)) = true := decide_eq_true c17; clear c17; obtain rfl := Option.some.inj H; have p103 : 0 ≤ (bU : Int) := of_decide_eq_true zz3; have q103 : bU < (aC.length : Int) := of_decide_eq_true zz3; obtain ⟨bD, e103, aQ, a6⟩ := at_T57 bM.out bU p103 q103; cases e103; replace aQ := (HB.out.cell (World.block_lt_of_cell? w _ aQ)).trans aQ; replace a6 := (HB.out.cell (World.block_lt_of_cell? w _ a6)).trans a6; replace p103 := eq_true p103; replace q103 := eq_true q103; (go_wp2_with (first | ((with_reducible refine gate_dst (N := 4) rfl ?_); (try (refine gate_guard (by rfl) ?_; dsimp only)); refine box_event ?hg (N := 4) ?hd (cs := #[.int .i64 0, .int .i64 0]) (t := 57) ?hr ?_; (case hd => rfl); (case hg => rfl); (case hr => exact zz9); intro aW hg w18 hbox hb; have n_ := zA7 (blk_below (g := aE) (o := .cells #[.int .i64 aD, .slice (some bD) aC.length aG] 25 (0, 0)) zz2 hb) (below_step zz0 hb) hbox (zz13 : w.heap.size ≤ aW) (zz13 : w.heap.size ≤ aW) (zz16 : aE ≠ aW) (zz17 : aW ≠ aE); clear aA HB; obtain ⟨aA, HB, aY, GW104, GE104, bH, bI⟩ := n_; clear hb hbox hg; have r8 := bI.out; have r4 := bH.out; have kF := zC20 aY; have kE := zC21 aY; have j9 := blk_frozen aY.out 0; have j8 := blk_frozen aY.out 1))); go_ret; exact ⟨zz7, zz11⟩
     rw [if_neg c17] at H; have jN : decide (((rd_T57 aC bU).f1) ≤ ((rd_T57 aC bU).f0)) = false := decide_eq_false c17; clear c17; by_cases c21 : ((rd_T57 aC bU).f1) ≥ aD
     ·rw [if_pos c21] at H; have iV : decide (aD ≤ ((rd_T57 aC bU).f1)) = true := decide_eq_true c21; clear c21; obtain rfl := Option.some.inj H; have p103 : 0 ≤ (bU : Int) := of_decide_eq_true zz3; have q103 : bU < (aC.length : Int) := of_decide_eq_true zz3; obtain ⟨bD, e103, aQ, a6⟩ := at_T57 bM.out bU p103 q103; cases e103; replace aQ := (HB.out.cell (World.block_lt_of_cell? w _ aQ)).trans aQ; replace a6 := (HB.out.cell (World.block_lt_of_cell? w _ a6)).trans a6; replace p103 := eq_true p103; replace q103 := eq_true q103; (go_wp2_with (first | ((with_reducible refine gate_dst (N := 4) rfl ?_); (try (refine gate_guard (by rfl) ?_; dsimp only)); refine box_event ?hg (N := 4) ?hd (cs := #[.int .i64 0, .int .i64 0]) (t := 57) ?hr ?_; (case hd => rfl); (case hg => rfl); (case hr => exact zz9); intro aW hg w22 hbox hb; have n_ := zA7 (blk_below (g := aE) (o := .cells #[.int .i64 aD, .slice (some bD) aC.length aG] 25 (0, 0)) zz2 hb) (below_step zz0 hb) hbox (zz13 : w.heap.size ≤ aW) (zz13 : w.heap.size ≤ aW) (zz16 : aE ≠ aW) (zz17 : aW ≠ aE); clear aA HB; obtain ⟨aA, HB, aY, GW104, GE104, bH, bI⟩ := n_; clear hb hbox hg; have AJ := bI.out; have zO := bH.out; have jG := zC20 aY; have jF := zC21 aY; have i8 := blk_frozen aY.out 0; have i7 := blk_frozen aY.out 1; have lP := zC20 aA; have lO := zC21 aA; have lH := blk_frozen aA.out 0; have lG := blk_frozen aA.out 1))); go_ret; exact ⟨zz7, zz11⟩
     rw [if_neg c21] at H; have iV : decide (aD ≤ ((rd_T57 aC bU).f1)) = false := decide_eq_false c21; clear c21; have H' := zK_ H; clear H; have p103 : 0 ≤ (bU : Int) := of_decide_eq_true zz3; have q103 : bU < (aC.length : Int) := of_decide_eq_true zz3; obtain ⟨bD, e103, aQ, a6⟩ := at_T57 bM.out bU p103 q103; cases e103; replace aQ := (HB.out.cell (World.block_lt_of_cell? w _ aQ)).trans aQ; replace a6 := (HB.out.cell (World.block_lt_of_cell? w _ a6)).trans a6; replace p103 := eq_true p103; replace q103 := eq_true q103; (go_wp2_with (first | ((with_reducible refine gate_dst (N := 4) rfl ?_); (try (refine gate_guard (by rfl) ?_; dsimp only)); refine box_event ?hg (N := 4) ?hd (cs := #[.int .i64 0, .int .i64 0]) (t := 57) ?hr ?_; (case hd => rfl); (case hg => rfl); (case hr => exact zz9); intro aW hg w26 hbox hb; have n_ := zA7 (blk_below (g := aE) (o := .cells #[.int .i64 aD, .slice (some bD) aC.length aG] 25 (0, 0)) zz2 hb) (below_step zz0 hb) hbox (zz13 : w.heap.size ≤ aW) (zz13 : w.heap.size ≤ aW) (zz16 : aE ≠ aW) (zz17 : aW ≠ aE); clear aA HB; obtain ⟨aA, HB, aY, GW104, GE104, bH, bI⟩ := n_; clear hb hbox hg; have AF := bI.out; have zI := bH.out; have nR := zC20 aY; have nQ := zC21 aY; have nJ := blk_frozen aY.out 0; have nI := blk_frozen aY.out 1; have lN := zC20 aA; have lM := zC21 aA; have lF := blk_frozen aA.out 0; have lE := blk_frozen aA.out 1))); go_roundg k2; (case measure => have := HJ1.out; have := HK2.out; omega); case rel => exact ⟨(wrap64 (bU + 1)), zz5, H', ⟨by have := HJ1.out; have := HK2.out; omega⟩, ⟨zz12⟩, ⟨zz11⟩⟩
end Go.Proofs.Ytnbljcgdgblgoaa.P
end

section
namespace Go.Proofs.Ytnbljcgdgblgoaa.Cf
set_option linter.unusedVariables false
set_option linter.unusedSimpArgs false
open Go.RowKit Go.Proofs.YtnbljcgdgblgoaaW.PrintWords
def Ep {α : Type} (g : Nat → Option α) (Q : α → Prop) : Prop := ∃ r, Q r ∧ ∃ K, ∀ k, K ≤ k → g k = some r
theorem Ep.now {α : Type} {Q : α → Prop} {r : α} (h : Q r) : Ep (fun _ => some r) Q := ⟨r, h, 0, fun _ _ => rfl⟩
theorem Ep.mono {α : Type} {g : Nat → Option α} {P Q : α → Prop} (h : Ep g P) (hpq : ∀ r, P r → Q r) : Ep g Q := by
 obtain ⟨r, hr, K, hK⟩ := h
 exact ⟨r, hpq r hr, K, hK⟩
theorem Ep.step {α : Type} {g f : Nat → Option α} {Q : α → Prop} (h : ∀ k, g (k + 1) = f k) (k : Ep f Q) : Ep g Q := by
 obtain ⟨r, hr, K, hK⟩ := k
 refine ⟨r, hr, K + 1, fun k hk => ?_⟩
 obtain ⟨m, rfl⟩ : ∃ m, k = m + 1 := ⟨k - 1, by omega⟩
 rw [h m]
 exact hK m (by omega)
theorem Ep.up {α : Type} {g : Nat → Option α} {Q : α → Prop} (h : Ep (fun k => g (k + 1)) Q) : Ep g Q := Ep.step (fun _ => rfl) h
theorem Ep.congr {α : Type} {g f : Nat → Option α} {Q : α → Prop} (h : ∀ k, g k = f k) (k : Ep f Q) : Ep g Q := by
 obtain ⟨r, hr, K, hK⟩ := k
 exact ⟨r, hr, K, fun k hk => (h k).trans (hK k hk)⟩
theorem Ep.bind {α β : Type} {g : Nat → Option α} {f : Nat → α → Option β} {P : α → Prop} {Q : β → Prop} (h : Ep g P) (k : ∀ a, P a → Ep (fun n => f n a) Q) : Ep (fun n => (g n).bind (f n)) Q := by
 obtain ⟨r, hr, K, hK⟩ := h
 obtain ⟨q, hq, L, hL⟩ := k r hr
 refine ⟨q, hq, max K L, fun k hk => ?_⟩
 show (g k).bind (f k) = some q
 rw [hK k (by omega)]
 exact hL k (by omega)
theorem Ep.bind0 {α β : Type} {g : Option α} {f : Nat → α → Option β} {a : α} {Q : β → Prop} (h : g = some a) (k : Ep (fun n => f n a) Q) : Ep (fun n => g.bind (f n)) Q := by
 subst h
 exact k
theorem Ep.ite {α : Type} {c : Prop} [Decidable c] {f g : Nat → Option α} {Q : α → Prop} (h : c → Ep f Q) (k : ¬ c → Ep g Q) : Ep (fun n => if c then f n else g n) Q := by
 by_cases hc : c
 ·simp only [hc, if_true]
  exact h hc
 ·simp only [hc, if_false]
  exact k hc
theorem Ep.pos {α : Type} {c : Prop} [Decidable c] {f g : Nat → Option α} {Q : α → Prop} (hc : c) (h : Ep f Q) : Ep (fun n => if c then f n else g n) Q := Ep.ite (fun _ => h) (fun k => absurd hc k)
theorem Ep.neg {α : Type} {c : Prop} [Decidable c] {f g : Nat → Option α} {Q : α → Prop} (hc : ¬ c) (h : Ep g Q) : Ep (fun n => if c then f n else g n) Q := Ep.ite (fun k => absurd k hc) (fun _ => h)
theorem Ep.rounds {α : Type} {g : Nat → Option α} {r : α} (h : Ep g (· = r)) : ∃ k, g k = some r := by
 obtain ⟨q, rfl, K, hK⟩ := h
 exact ⟨K, hK K (Nat.le_refl _)⟩
def Wf (k : IntKind) (x : Int) : Prop := (Lit.int k x).wf = true
theorem Wf.i64 {x : Int} (h : Wf .i64 x) : -9223372036854775808 ≤ x ∧ x ≤ 9223372036854775807 := by
 simpa [Wf, Lit.wf, IntKind.min, IntKind.max, IntKind.signed, IntKind.bits] using h
def SL {α : Type} (Q : α → Prop) (l : List α) : Prop := l.length ≤ 9223372036854775807 ∧ ∀ x ∈ l, Q x
theorem wrap_id {x : Int} (h0 : -9223372036854775808 ≤ x) (h1 : x ≤ 9223372036854775807) : wrap64 x = x := by
 unfold wrap64
 omega
theorem rd_nat (xs : List Int) (i : Nat) : rd xs (i : Int) = xs.getD i 0 := by simp [rd]
theorem rd_get {xs : List Int} {i : Nat} (h : i < xs.length) : rd xs (i : Int) = xs[i] := by simp [rd, List.getD, h]
end Go.Proofs.Ytnbljcgdgblgoaa.Cf
end

section
namespace Go.Proofs.Ytnbljcgdgblgoaa.Cf
set_option linter.unusedVariables false
set_option linter.unusedSimpArgs false
def Adj (es : List E) (a b : Int) : Prop := ∃ e ∈ es, (e.f0 = a ∧ e.f1 = b) ∨ (e.f0 = b ∧ e.f1 = a)
theorem Adj.symm {es : List E} {a b : Int} (h : Adj es a b) : Adj es b a := by
 obtain ⟨e, he, h⟩ := h
 exact ⟨e, he, h.symm⟩
inductive Conn (es : List E) (a : Int) : Int → Prop
 | refl : Conn es a a
 | tail {b c : Int} : Conn es a b → Adj es b c → Conn es a c
theorem Conn.trans {es : List E} {a b c : Int} (h : Conn es a b) (k : Conn es b c) : Conn es a c := by
 induction k with
 | refl => exact h
 | tail _ hadj ih => exact ih.tail hadj
theorem Conn.one {es : List E} {a b : Int} (h : Adj es a b) : Conn es a b := Conn.refl.tail h
theorem Conn.symm {es : List E} {a b : Int} (h : Conn es a b) : Conn es b a := by
 induction h with
 | refl => exact .refl
 | tail _ hadj ih => exact (Conn.one hadj.symm).trans ih
theorem Conn.closed {es : List E} {S : Int → Prop} (hS : ∀ a b, S a → Adj es a b → S b) {a b : Int} (h : Conn es a b) (ha : S a) : S b := by
 induction h with
 | refl => exact ha
 | tail _ hadj ih => exact hS _ _ ih hadj
def EOk (n : Int) (e : E) : Prop := 0 ≤ e.f0 ∧ e.f0 < e.f1 ∧ e.f1 < n
instance decEOk (n : Int) (e : E) : Decidable (EOk n e) := by unfold EOk; infer_instance
def EsOk (n : Int) (es : List E) : Prop := 1 ≤ n ∧ n ≤ 6 ∧ es.length ≤ 12 ∧ ∀ e ∈ es, EOk n e
instance decEsOk (n : Int) (es : List E) : Decidable (EsOk n es) := by unfold EsOk; infer_instance
def leE (a b : E) : Prop := a.f0 < b.f0 ∨ (a.f0 = b.f0 ∧ a.f1 ≤ b.f1)
instance decLeE (a b : E) : Decidable (leE a b) := by unfold leE; infer_instance
def Sorted (es : List E) : Prop := ∀ i, (h : i + 1 < es.length) → leE es[i] es[i + 1]
def Joined (n : Int) (es : List E) : Prop := ∀ v, 0 ≤ v → v < n → Conn es 0 v
def GOk (n : Int) (es : List E) : Prop := EsOk n es ∧ Sorted es ∧ Joined n es
instance decSorted (es : List E) : Decidable (Sorted es) := decidable_of_iff (∀ i, (h : i < es.length - 1) → leE (es[i]'(by omega)) (es[i + 1]'(by omega))) ⟨fun h i hi => h i (by omega), fun h i hi => h i (by omega)⟩
theorem EsOk.adj {n : Int} {es : List E} (h : ∀ e ∈ es, EOk n e) {a b : Int} (hab : Adj es a b) : 0 ≤ b ∧ b < n := by
 obtain ⟨e, he, hx⟩ := hab
 have := h e he
 unfold EOk at this
 omega
def stepM (m : Nat) (e : E) : Nat := if m.testBit e.f0.toNat || m.testBit e.f1.toNat then m ||| (2 ^ e.f0.toNat ||| 2 ^ e.f1.toNat) else m
def roundM (es : List E) (m : Nat) : Nat := es.foldl stepM m
def timesM (es : List E) : Nat → Nat → Nat
 | 0, m => m
 | k + 1, m => timesM es k (roundM es m)
theorem testBit_step {m : Nat} {e : E} {i : Nat} : (stepM m e).testBit i = (m.testBit i || ((m.testBit e.f0.toNat || m.testBit e.f1.toNat) && (i == e.f0.toNat || i == e.f1.toNat))) := by
 unfold stepM
 by_cases h : (m.testBit e.f0.toNat || m.testBit e.f1.toNat) = true
 ·rw [if_pos h, h]
  simp only [Nat.testBit_or, Nat.testBit_two_pow, Bool.true_and]
  congr 1
  rw [Bool.eq_iff_iff]
  simp only [Bool.or_eq_true, decide_eq_true_eq, beq_iff_eq]
  omega
 ·rw [if_neg h]
  simp only [Bool.not_eq_true] at h
  rw [h]
  simp
theorem step_mono {m : Nat} {e : E} {i : Nat} (h : m.testBit i = true) : (stepM m e).testBit i = true := by rw [testBit_step, h]; rfl
theorem round_mono (es : List E) : ∀ {m : Nat} {i : Nat}, m.testBit i = true → (roundM es m).testBit i = true := by
 induction es with
 | nil => intro m i h; exact h
 | cons e r ih => intro m i h; exact ih (step_mono h)
theorem times_mono (es : List E) : ∀ (k : Nat) {m : Nat} {i : Nat}, m.testBit i = true → (timesM es k m).testBit i = true
 | 0, _, _, h => h
 | k + 1, _, _, h => times_mono es k (round_mono es h)
def MOk (es : List E) (n : Int) (m : Nat) : Prop := ∀ i : Nat, m.testBit i = true → (i : Int) < n ∧ Conn es 0 i
theorem step_ok {es : List E} {n : Int} {m : Nat} {e : E} (he : e ∈ es) (hk : EOk n e) (h : MOk es n m) : MOk es n (stepM m e) := by
 intro i hi
 rw [testBit_step] at hi
 simp only [Bool.or_eq_true, Bool.and_eq_true, beq_iff_eq] at hi
 unfold EOk at hk
 have e0 : ((e.f0.toNat : Nat) : Int) = e.f0 := by omega
 have e1 : ((e.f1.toNat : Nat) : Int) = e.f1 := by omega
 rcases hi with hi | ⟨hm, hi⟩
 ·exact h i hi
 ·have key : Conn es 0 e.f0 ∧ Conn es 0 e.f1 := by
   rcases hm with hm | hm
   ·have := (h _ hm).2
    rw [e0] at this
    exact ⟨this, this.tail ⟨e, he, .inl ⟨rfl, rfl⟩⟩⟩
   ·have := (h _ hm).2
    rw [e1] at this
    exact ⟨this.tail ⟨e, he, .inr ⟨rfl, rfl⟩⟩, this⟩
  rcases hi with hi | hi
  ·subst hi
   rw [e0]
   exact ⟨by omega, key.1⟩
  ·subst hi
   rw [e1]
   exact ⟨by omega, key.2⟩
theorem round_ok {es : List E} {n : Int} (hes : ∀ e ∈ es, EOk n e) : ∀ (fs : List E), (∀ e ∈ fs, e ∈ es) → ∀ {m : Nat}, MOk es n m → MOk es n (roundM fs m) := by
 intro fs
 induction fs with
 | nil => intro _ m h; exact h
 | cons e r ih =>
  intro hs m h
  have he := hs e (List.mem_cons_self)
  exact ih (fun x hx => hs x (List.mem_cons_of_mem _ hx)) (step_ok he (hes e he) h)
theorem times_ok {es : List E} {n : Int} (hes : ∀ e ∈ es, EOk n e) : ∀ (k : Nat) {m : Nat}, MOk es n m → MOk es n (timesM es k m)
 | 0, _, h => h
 | k + 1, _, h => times_ok hes k (round_ok hes es (fun _ h => h) h)
def cnt (n : Nat) (m : Nat) : Nat := (List.range n).countP (m.testBit ·)
theorem cnt_le (n m : Nat) : cnt n m ≤ n := by
 unfold cnt
 have := List.countP_le_length (p := fun i => m.testBit i) (l := List.range n)
 simpa using this
theorem countP_lt {α : Type} {p q : α → Bool} : ∀ {l : List α}, (∀ x ∈ l, p x = true → q x = true) → (∃ x ∈ l, p x = false ∧ q x = true) → l.countP p < l.countP q
 | [], _, h => by obtain ⟨x, hx, _⟩ := h; cases hx
 | y :: r, hpq, h => by
  have hle : r.countP p ≤ r.countP q := List.countP_mono_left (fun x hx => hpq x (List.mem_cons_of_mem _ hx))
  simp only [List.countP_cons]
  by_cases hy : p y = false ∧ q y = true
  ·rw [hy.1, hy.2]
   simp
   omega
  ·have hr : r.countP p < r.countP q := by
    apply countP_lt (fun x hx => hpq x (List.mem_cons_of_mem _ hx))
    obtain ⟨x, hx, h1⟩ := h
    rcases List.mem_cons.1 hx with rfl | hx
    ·exact absurd h1 hy
    ·exact ⟨x, hx, h1⟩
   have h2 := hpq y List.mem_cons_self
   by_cases hp : p y = true
   ·rw [hp, h2 hp]
    simp
    omega
   ·simp only [hp, if_false, Bool.not_eq_true] at *
    simp
    split <;> omega
theorem cnt_lt {n m m' : Nat} (h : ∀ i, m.testBit i = true → m'.testBit i = true) (hx : ∃ i, i < n ∧ m.testBit i = false ∧ m'.testBit i = true) : cnt n m < cnt n m' := by
 obtain ⟨i, hi, h1⟩ := hx
 exact countP_lt (fun x _ => h x) ⟨i, List.mem_range.2 hi, h1⟩
theorem round_fix_step {es : List E} : ∀ (fs : List E) {m : Nat}, (∀ i, (roundM fs m).testBit i = true → m.testBit i = true) → ∀ e ∈ fs, m.testBit e.f0.toNat = m.testBit e.f1.toNat := by
 intro fs
 induction fs with
 | nil => intro m _ e he; cases he
 | cons a r ih =>
  intro m h e he
  have hst : ∀ i, (stepM m a).testBit i = true → m.testBit i = true := fun i hi => h i (round_mono r hi)
  have heq : stepM m a = m := by
   apply Nat.eq_of_testBit_eq
   intro i
   rw [Bool.eq_iff_iff]
   exact ⟨hst i, step_mono⟩
  rcases List.mem_cons.1 he with rfl | he
  ·have h0 := hst e.f0.toNat
   have h1 := hst e.f1.toNat
   rw [testBit_step] at h0 h1
   simp only [beq_self_eq_true, Bool.true_or, Bool.or_true, Bool.and_true, Bool.or_eq_true] at h0 h1
   rw [Bool.eq_iff_iff]
   exact ⟨fun hx => h1 (.inr (.inl hx)), fun hx => h0 (.inr (.inr hx))⟩
  ·have : roundM (a :: r) m = roundM r m := by show roundM r (stepM m a) = _; rw [heq]
   exact ih (fun i hi => h i (by rw [this]; exact hi)) e he
theorem closed_of_fix {es : List E} {n : Int} (hes : ∀ e ∈ es, EOk n e) {m : Nat} (h : ∀ i, (roundM es m).testBit i = true → m.testBit i = true) (h0 : m.testBit 0 = true) (i : Nat) (hi : Conn es 0 i) : m.testBit i = true := by
 have hf := round_fix_step (es := es) es h
 have key : ∀ v : Int, Conn es 0 v → 0 ≤ v ∧ m.testBit v.toNat = true := by
  intro v hv
  refine hv.closed (S := fun v => 0 ≤ v ∧ m.testBit v.toNat = true) ?_ ⟨by omega, h0⟩
  rintro a b ⟨ha, hb⟩ ⟨e, he, hx⟩
  have hk := hes e he
  unfold EOk at hk
  rcases hx with ⟨h1, h2⟩ | ⟨h1, h2⟩
  ·subst h1; subst h2
   exact ⟨by omega, by rw [← hf e he]; exact hb⟩
  ·subst h1; subst h2
   exact ⟨by omega, by rw [hf e he]; exact hb⟩
 have := (key i hi).2
 simpa using this
theorem times_grow {es : List E} {n : Nat} (hes : ∀ e ∈ es, EOk n e) : ∀ (k : Nat) {m : Nat}, MOk es n m → m.testBit 0 = true →
  (∀ i : Nat, Conn es 0 i → (timesM es k m).testBit i = true) ∨ k + cnt n m ≤ cnt n (timesM es k m)
 | 0, m, _, _ => .inr (by simp [timesM])
 | k + 1, m, hm, h0 => by
  by_cases hfix : ∀ i, (roundM es m).testBit i = true → m.testBit i = true
  ·left
   intro i hi
   exact times_mono es (k + 1) (closed_of_fix hes hfix h0 i hi)
  ·obtain ⟨i, hi⟩ := Classical.not_forall.1 hfix
   have hi1 : (roundM es m).testBit i = true := Classical.byContradiction fun hc => hi (fun x => absurd x hc)
   have hi2 : m.testBit i = false := by
    cases hb : m.testBit i with
    | false => rfl
    | true => exact absurd (fun _ => hb) hi
   have hok := round_ok hes es (fun _ h => h) hm
   have hlt : cnt n m < cnt n (roundM es m) := cnt_lt (fun j hj => round_mono es hj) ⟨i, by have := (hok i hi1).1; omega, hi2, hi1⟩
   rcases times_grow hes k hok (round_mono es h0) with h | h
   ·exact .inl h
   ·right
    show k + 1 + _ ≤ cnt n (timesM es k (roundM es m))
    omega
theorem cnt_full {n m : Nat} (h : n ≤ cnt n m) : ∀ i, i < n → m.testBit i = true := by
 intro i hi
 apply Classical.byContradiction
 intro hc
 have hc' : m.testBit i = false := by simpa using hc
 have : cnt n m < cnt n (2 ^ n - 1) := by
  refine countP_lt (fun x hx _ => ?_) ⟨i, List.mem_range.2 hi, hc', ?_⟩
  ·rw [Nat.testBit_two_pow_sub_one]; simpa using hx
  ·rw [Nat.testBit_two_pow_sub_one]; simpa using hi
 have := cnt_le n (2 ^ n - 1)
 omega
theorem times_joined {es : List E} {n : Nat} (h1 : 1 ≤ n) (hes : ∀ e ∈ es, EOk n e) : timesM es n 1 = 2 ^ n - 1 ↔ Joined n es := by
 have hm1 : MOk es n 1 := by
  intro i hi
  have : i = 0 := by simpa [Nat.testBit_one_eq_true_iff_self_eq_zero] using hi
  subst this
  exact ⟨by omega, .refl⟩
 have h0 : (1 : Nat).testBit 0 = true := by decide
 have hok := times_ok hes n hm1
 constructor
 ·intro h v hv0 hvn
  have := hok v.toNat (by rw [h, Nat.testBit_two_pow_sub_one]; simp; omega)
  have e : ((v.toNat : Nat) : Int) = v := by omega
  rw [e] at this
  exact this.2
 ·intro hj
  have hall : ∀ i, i < n → (timesM es n 1).testBit i = true := by
   rcases times_grow hes n hm1 h0 with h | h
   ·exact fun i hi => h i (hj i (by omega) (by omega))
   ·have : n ≤ cnt n (timesM es n 1) := by omega
    exact cnt_full this
  apply Nat.eq_of_testBit_eq
  intro i
  rw [Nat.testBit_two_pow_sub_one, Bool.eq_iff_iff]
  simp only [decide_eq_true_eq]
  refine ⟨fun h => ?_, fun h => hall i h⟩
  have := (hok i h).1
  omega
def gOk (n : Int) (es : List E) : Bool := decide (EsOk n es) && (decide (Sorted es) && decide (timesM es n.toNat 1 = 2 ^ n.toNat - 1))
theorem gOk_iff {n : Int} {es : List E} : gOk n es = true ↔ GOk n es := by
 unfold gOk GOk
 simp only [Bool.and_eq_true, decide_eq_true_eq]
 constructor
 ·rintro ⟨h1, h2, h3⟩
  have h := h1
  unfold EsOk at h
  obtain ⟨m, rfl⟩ := Int.eq_ofNat_of_zero_le (a := n) (by omega)
  exact ⟨h1, h2, (times_joined (n := m) (by omega) h.2.2.2).1 h3⟩
 ·rintro ⟨h1, h2, h3⟩
  have h := h1
  unfold EsOk at h
  obtain ⟨m, rfl⟩ := Int.eq_ofNat_of_zero_le (a := n) (by omega)
  exact ⟨h1, h2, (times_joined (n := m) (by omega) h.2.2.2).2 h3⟩
def QOk (es : List E) (n : Int) (q : List Int) : Prop := q.Nodup ∧ ∀ v ∈ q, (0 ≤ v ∧ v < n) ∧ Conn es 0 v
theorem nodup_len : ∀ (n : Nat) (l : List Int), l.Nodup → (∀ v ∈ l, 0 ≤ v ∧ v < n) → l.length ≤ n
 | 0, l, _, hv => by
  cases l with
  | nil => exact Nat.le_refl _
  | cons a r => have := hv a List.mem_cons_self; omega
 | n + 1, l, hl, hv => by
  by_cases hm : (n : Int) ∈ l
  ·have h1 := nodup_len n (l.erase n) (hl.erase _) (fun v hx => by
    have h2 := (hl.mem_erase_iff).1 hx
    have := hv v h2.2
    have := h2.1
    omega)
   rw [List.length_erase_of_mem hm] at h1
   omega
  ·have := nodup_len n l hl (fun v hx => by
    have := hv v hx
    have : v ≠ n := by rintro rfl; exact hm hx
    omega)
   omega
theorem len_nodup : ∀ (n : Nat) (l : List Int), (∀ i : Nat, i < n → (i : Int) ∈ l) → n ≤ l.length
 | 0, _, _ => Nat.zero_le _
 | n + 1, l, h => by
  have hm := h n (by omega)
  have := len_nodup n (l.erase n) (fun i hi => (List.mem_erase_of_ne (by omega)).2 (h i (by omega)))
  rw [List.length_erase_of_mem hm] at this
  have : 0 < l.length := List.length_pos_of_mem hm
  omega
theorem queue_joined {es : List E} {n : Nat} (h1 : 1 ≤ n) {q : List Int} (hq : QOk es n q) (h0 : (0 : Int) ∈ q) (hc : ∀ a ∈ q, ∀ b, Adj es a b → b ∈ q) : q.length = n ↔ Joined n es := by
 constructor
 ·intro hl v hv0 hvn
  have : v ∈ q := by
   apply Classical.byContradiction
   intro hv
   have := nodup_len n (v :: q) (List.nodup_cons.2 ⟨hv, hq.1⟩) (fun x hx => by
    rcases List.mem_cons.1 hx with rfl | hx
    ·exact ⟨hv0, hvn⟩
    ·exact (hq.2 x hx).1)
   simp at this
   omega
  exact (hq.2 v this).2
 ·intro hj
  have := nodup_len n q hq.1 (fun x hx => (hq.2 x hx).1)
  have := len_nodup n q (fun i hi => (hj i (by omega) (by omega)).closed (S := fun x => x ∈ q) (fun a b ha hab => hc a ha b hab) h0)
  omega
theorem QOk.push {es : List E} {n : Int} {q : List Int} (h : QOk es n q) {v : Int} (hv : v ∉ q) (h0 : 0 ≤ v ∧ v < n) (hc : Conn es 0 v) : QOk es n (q ++ [v]) := by
 refine ⟨?_, fun x hx => ?_⟩
 ·rw [List.nodup_append]
  exact ⟨h.1, by simp, fun a ha b hb => by
   rw [List.mem_singleton.1 hb]
   rintro rfl
   exact hv ha⟩
 ·rcases List.mem_append.1 hx with hx | hx
  ·exact h.2 x hx
  ·rw [List.mem_singleton.1 hx]
   exact ⟨h0, hc⟩
end Go.Proofs.Ytnbljcgdgblgoaa.Cf
end

section
namespace Go.Proofs.Ytnbljcgdgblgoaa.Cf
set_option linter.unusedVariables false
set_option linter.unusedSimpArgs false
open Go.RowKit Go.Proofs.YtnbljcgdgblgoaaW.PrintWords Go.Proofs.Ytnbljcgdgblgoaa.P
theorem wrap_succ {i : Nat} (h : i < 4611686018427387904) : wrap64 ((i : Int) + 1) = ((i + 1 : Nat) : Int) := by
 rw [wrap_id (by omega) (by omega)]
 omega
theorem eqIntS_l0 (x0 x1 : List Int) (h : x0.length ≤ 1048576) (hl : x0.length = x1.length) : ∀ (d i : Nat), i + d = x0.length → (∀ j, j < i → x0[j]? = x1[j]?) → Ep (fun k => laws_eqIntS.l0 k x0 x1 (i : Int)) (· = decide (x0 = x1)) := by
 intro d
 induction d with
 | zero =>
  intro i hi hx
  refine Ep.up ?_
  simp only [laws_eqIntS.l0]
  refine Ep.neg (by omega) (Ep.now ?_)
  have : x0 = x1 := by
   apply List.ext_getElem?
   intro j
   by_cases hj : j < i
   ·exact hx j hj
   ·rw [List.getElem?_eq_none (by omega), List.getElem?_eq_none (by omega)]
  simp [this]
 | succ d ih =>
  intro i hi hx
  refine Ep.up ?_
  simp only [laws_eqIntS.l0]
  refine Ep.pos (by omega) (Ep.pos (by omega) (Ep.pos (by omega) ?_))
  rw [rd_get (show i < x0.length by omega), rd_get (show i < x1.length by omega), wrap_succ (by omega)]
  refine Ep.ite (fun e => ?_) (fun e => Ep.now ?_)
  ·refine ih (i + 1) (by omega) ?_
   intro j hj
   by_cases ej : j = i
   ·subst ej
    rw [List.getElem?_eq_getElem (by omega), List.getElem?_eq_getElem (by omega), e]
   ·exact hx j (by omega)
  ·have : x0 ≠ x1 := by
    rintro rfl
    exact e rfl
   simp [this]
theorem eqIntS_any (x0 x1 : List Int) (h : x0.length ≤ 1048576) : Ep (fun k => laws_eqIntS.f k x0 x1) (· = decide (x0 = x1)) := by
 simp only [laws_eqIntS.f]
 refine Ep.ite (fun e => eqIntS_l0 x0 x1 h (by omega) x0.length 0 (by omega) (fun j hj => by omega)) (fun e => Ep.now ?_)
 have : x0 ≠ x1 := by
  rintro rfl
  exact e rfl
 simp [this]
theorem eqIntS_ok (x : List Int) (h : x.length ≤ 1048576) : Ep (fun k => laws_eqIntS.f k x x) (· = true) := (eqIntS_any x x h).mono (fun r hr => by rw [hr]; simp)
def marks (k : Int) (n : Nat) : List Int := (List.range n).map (fun i : Nat => k + i)
theorem marks_len (k : Int) (n : Nat) : (marks k n).length = n := by simp [marks]
theorem marks_get {k : Int} {n i : Nat} (h : i < n) : (marks k n)[i]? = some (k + i) := by simp [marks, h]
theorem markIntS_l0 (n : Nat) (a : Int) (hn : n ≤ 1048576) (ha : 0 ≤ a ∧ a ≤ 1099511627776) : ∀ (d i : Nat) (x0 : List Int), i + d = n → x0.length = n → (∀ j, j < i → x0[j]? = (marks a n)[j]?) → Ep (fun k => laws_markIntS.l0 k x0 (a + i) (i : Int)) (· = (a + n, marks a n)) := by
 intro d
 induction d with
 | zero =>
  intro i x0 hi hl hx
  refine Ep.up ?_
  simp only [laws_markIntS.l0]
  refine Ep.neg (by omega) (Ep.now ?_)
  have : x0 = marks a n := by
   apply List.ext_getElem?
   intro j
   by_cases hj : j < i
   ·exact hx j hj
   ·rw [List.getElem?_eq_none (by omega), List.getElem?_eq_none (by rw [marks_len]; omega)]
  rw [this]
  have : i = n := by omega
  rw [this]
 | succ d ih =>
  intro i x0 hi hl hx
  refine Ep.up ?_
  simp only [laws_markIntS.l0]
  refine Ep.pos (by omega) (Ep.pos (by omega) ?_)
  rw [wrap_succ (by omega), wrap_id (x := a + i + 1) (by omega) (by omega), show a + (i : Int) + 1 = a + ((i + 1 : Nat) : Int) by omega]
  refine ih (i + 1) _ (by omega) (by simpa using hl) ?_
  intro j hj
  rw [Int.toNat_natCast]
  by_cases e : i = j
  ·subst e
   rw [List.getElem?_set_self (by omega), marks_get (by omega)]
  ·rw [List.getElem?_set_ne e]
   exact hx j (by omega)
theorem markIntS_ok (x : List Int) (a : Int) (h : x.length ≤ 1048576) (ha : 0 ≤ a ∧ a ≤ 1099511627776) : Ep (fun k => laws_markIntS.f k x a) (· = (a + x.length, marks a x.length)) := by
 have := markIntS_l0 x.length a h ha x.length 0 x (by omega) rfl (fun j hj => by omega)
 simp only [laws_markIntS.f]
 simpa using this
theorem heldIntS_l0 (n : Nat) (a : Int) (hn : n ≤ 1048576) (ha : 0 ≤ a ∧ a ≤ 1099511627776) : ∀ (d i : Nat), i + d = n → Ep (fun k => laws_heldIntS.l0 k (marks a n) (a + i) (i : Int)) (· = a + n) := by
 intro d
 induction d with
 | zero =>
  intro i hi
  refine Ep.up ?_
  simp only [laws_heldIntS.l0]
  refine Ep.neg (by rw [marks_len]; omega) (Ep.now ?_)
  have : i = n := by omega
  rw [this]
 | succ d ih =>
  intro i hi
  refine Ep.up ?_
  simp only [laws_heldIntS.l0]
  refine Ep.pos (by rw [marks_len]; omega) (Ep.pos (by omega) (Ep.pos ?_ ?_))
  ·rw [rd_nat, List.getD_eq_getElem?_getD, marks_get (by omega)]
   rfl
  ·rw [wrap_succ (by omega), wrap_id (x := a + i + 1) (by omega) (by omega), show a + (i : Int) + 1 = a + ((i + 1 : Nat) : Int) by omega]
   exact ih (i + 1) (by omega)
theorem heldIntS_ok (n : Nat) (a : Int) (h : n ≤ 1048576) (ha : 0 ≤ a ∧ a ≤ 1099511627776) : Ep (fun k => laws_heldIntS.f k (marks a n) a) (· = a + n) := by
 have := heldIntS_l0 n a h ha n 0 (by omega)
 simp only [laws_heldIntS.f]
 simpa using this
theorem rdE_get {es : List E} {i : Nat} (h : i < es.length) : rd_T57 es (i : Int) = es[i] := by simp [rd_T57, List.getD, h]
theorem l01In_eq (a b c : Int) : spec_l01In.f a b c = some (decide (b ≤ a ∧ a ≤ c)) := by
 unfold spec_l01In.f
 by_cases h : a ≥ b
 ·rw [if_pos h]
  have : (b ≤ a ∧ a ≤ c) ↔ a ≤ c := ⟨fun x => x.2, fun x => ⟨h, x⟩⟩
  simp only [this]
 ·rw [if_neg h]
  have : ¬ (b ≤ a ∧ a ≤ c) := fun x => h x.1
  simp only [this, decide_false]
theorem forall_drop {es : List E} {P : E → Prop} {i : Nat} (h : i < es.length) : (∀ e ∈ es.drop i, P e) ↔ (P es[i] ∧ ∀ e ∈ es.drop (i + 1), P e) := by
 rw [List.drop_eq_getElem_cons h]
 simp only [List.mem_cons, forall_eq_or_imp]
theorem specEdges_l0 (n : Int) (hn : 1 ≤ n ∧ n ≤ 6) (es : List E) (hl : es.length ≤ 12) : ∀ (d i : Nat), i + d = es.length → Ep (fun k => spec_EdgesOk.l0 k es (es.length : Int) (i : Int) n es) (· = decide (∀ e ∈ es.drop i, EOk n e)) := by
 intro d
 induction d with
 | zero =>
  intro i hi
  refine Ep.up ?_
  simp only [spec_EdgesOk.l0]
  refine Ep.neg (by omega) (Ep.now ?_)
  rw [List.drop_of_length_le (by omega)]
  simp
 | succ d ih =>
  intro i hi
  have hlt : i < es.length := by omega
  refine Ep.up ?_
  simp only [spec_EdgesOk.l0]
  refine Ep.pos (by omega) (Ep.pos (by omega) (Ep.pos (by omega) ?_))
  rw [rdE_get hlt, wrap_id (x := n - 1) (by omega) (by omega)]
  refine Ep.bind0 (l01In_eq _ _ _) ?_
  refine Ep.ite (fun h0 => ?_) (fun h0 => Ep.now ?_)
  ·have h0' : 0 ≤ es[i].f0 ∧ es[i].f0 ≤ n - 1 := by simpa using h0
   rw [wrap_id (x := es[i].f0 + 1) (by omega) (by omega)]
   refine Ep.bind0 (l01In_eq _ _ _) ?_
   refine Ep.ite (fun h1 => ?_) (fun h1 => Ep.now ?_)
   ·have h1' : es[i].f0 + 1 ≤ es[i].f1 ∧ es[i].f1 ≤ n - 1 := by simpa using h1
    rw [wrap_succ (by omega)]
    refine (ih (i + 1) (by omega)).mono ?_
    rintro _ rfl
    have : EOk n es[i] := by unfold EOk; omega
    simp only [forall_drop hlt, this, true_and]
   ·have h1' : ¬ (es[i].f0 + 1 ≤ es[i].f1 ∧ es[i].f1 ≤ n - 1) := by simpa using h1
    have : ¬ EOk n es[i] := by unfold EOk; omega
    simp only [forall_drop hlt, this, false_and, decide_false]
  ·have h0' : ¬ (0 ≤ es[i].f0 ∧ es[i].f0 ≤ n - 1) := by simpa using h0
   have : ¬ EOk n es[i] := by unfold EOk; omega
   simp only [forall_drop hlt, this, false_and, decide_false]
theorem specEdges (n : Int) (es : List E) : Ep (fun k => spec_EdgesOk.f k n es) (· = decide (EsOk n es)) := by
 simp only [spec_EdgesOk.f]
 refine Ep.bind0 (l01In_eq _ _ _) ?_
 refine Ep.ite (fun h0 => ?_) (fun h0 => ?_)
 ·have h0' : 1 ≤ n ∧ n ≤ 6 := by simpa using h0
  refine Ep.up ?_
  simp only [spec_EdgesOk.j0]
  refine Ep.ite (fun h1 => Ep.now ?_) (fun h1 => ?_)
  ·have : ¬ EsOk n es := by
    have : (es.length : Int) > 12 := by simpa using h1
    unfold EsOk
    omega
   simp [this]
  ·have hl : es.length ≤ 12 := by
    have : ¬ (es.length : Int) > 12 := by simpa using h1
    omega
   refine (specEdges_l0 n h0' es hl es.length 0 (by omega)).mono ?_
   rintro _ rfl
   rw [List.drop_zero]
   unfold EsOk
   simp only [h0'.1, h0'.2, hl, true_and]
 ·have h0' : ¬ (1 ≤ n ∧ n ≤ 6) := by simpa using h0
  refine Ep.up ?_
  simp only [spec_EdgesOk.j0]
  refine Ep.pos (by simp) (Ep.now ?_)
  have : ¬ EsOk n es := by
   unfold EsOk
   omega
  simp [this]
theorem specHas_l0 (x : Int) (l : List Int) (hl : l.length ≤ 1048576) : ∀ (d i : Nat), i + d = l.length → Ep (fun k => spec_l02Has.l0 k x l (l.length : Int) (i : Int)) (· = decide (x ∈ l.drop i)) := by
 intro d
 induction d with
 | zero =>
  intro i hi
  refine Ep.up ?_
  simp only [spec_l02Has.l0]
  refine Ep.neg (by omega) (Ep.now ?_)
  rw [List.drop_of_length_le (by omega)]
  simp
 | succ d ih =>
  intro i hi
  have hlt : i < l.length := by omega
  refine Ep.up ?_
  simp only [spec_l02Has.l0]
  refine Ep.pos (by omega) (Ep.pos (by omega) (Ep.pos (by omega) ?_))
  rw [rd_get hlt, wrap_succ (by omega), List.drop_eq_getElem_cons hlt]
  refine Ep.ite (fun h => Ep.now ?_) (fun h => ?_)
  ·simp only [List.mem_cons, h, true_or, decide_true]
  ·refine (ih (i + 1) (by omega)).mono ?_
   rintro _ rfl
   have : ¬ x = l[i] := fun e => h e.symm
   simp only [List.mem_cons, this, false_or]
theorem specHas (l : List Int) (x : Int) (hl : l.length ≤ 1048576) : Ep (fun k => spec_l02Has.f k l x) (· = decide (x ∈ l)) := by
 have := specHas_l0 x l hl l.length 0 (by omega)
 simp only [spec_l02Has.f]
 exact this
structure BInv (es : List E) (n : Nat) (q : List Int) (a i : Nat) (u : Int) : Prop where
 ok : QOk es n q
 zero : (0 : Int) ∈ q
 done : ∀ x ∈ q.take a, ∀ b, Adj es x b → b ∈ q
 at_ : q[a]? = some u
 part : ∀ e ∈ es.take i, (e.f0 = u → e.f1 ∈ q) ∧ (e.f1 = u → e.f0 ∈ q)
theorem BInv.lt {es : List E} {n : Nat} {q : List Int} {a i : Nat} {u : Int} (h : BInv es n q a i u) : a < q.length := by
 apply Classical.byContradiction
 intro hc
 have := h.at_
 rw [List.getElem?_eq_none (by omega)] at this
 cases this
theorem BInv.len {es : List E} {n : Nat} {q : List Int} {a i : Nat} {u : Int} (h : BInv es n q a i u) : q.length ≤ n := nodup_len n q h.ok.1 (fun v hv => (h.ok.2 v hv).1)
theorem BInv.rd {es : List E} {n : Nat} {q : List Int} {a i : Nat} {u : Int} (h : BInv es n q a i u) : rd q (a : Int) = u := by
 rw [rd_nat, List.getD_eq_getElem?_getD, h.at_]
 rfl
theorem BInv.push {es : List E} {n : Nat} {q : List Int} {a i : Nat} {u v : Int} (hes : ∀ e ∈ es, EOk n e) (h : BInv es n q a i u) (hv : v ∉ q) (hadj : Adj es u v) : BInv es n (q ++ [v]) a i u where
 ok := by
  have hu : u ∈ q := List.mem_of_getElem? h.at_
  exact h.ok.push hv (EsOk.adj hes hadj) ((h.ok.2 u hu).2.tail hadj)
 zero := List.mem_append_left _ h.zero
 done := fun x hx b hb => by
  rw [List.take_append_of_le_length (by have := h.lt; omega)] at hx
  exact List.mem_append_left _ (h.done x hx b hb)
 at_ := by rw [List.getElem?_append_left h.lt]; exact h.at_
 part := fun e he => ⟨fun x => List.mem_append_left _ ((h.part e he).1 x), fun x => List.mem_append_left _ ((h.part e he).2 x)⟩
theorem BInv.next {es : List E} {n : Nat} {q : List Int} {a i : Nat} {u : Int} (h : BInv es n q a i u) (hi : i < es.length) (h0 : es[i].f0 = u → es[i].f1 ∈ q) (h1 : es[i].f1 = u → es[i].f0 ∈ q) : BInv es n q a (i + 1) u where
 ok := h.ok
 zero := h.zero
 done := h.done
 at_ := h.at_
 part := fun e he => by
  rw [List.take_succ_eq_append_getElem hi] at he
  rcases List.mem_append.1 he with he | he
  ·exact h.part e he
  ·rw [List.mem_singleton.1 he]
   exact ⟨h0, h1⟩
theorem specReach_l1 (n : Nat) (hn : n ≤ 6) (es : List E) (hl : es.length ≤ 12) (hes : ∀ e ∈ es, EOk n e) (a : Nat) (u : Int) {Q : List Int → Prop}
  (hk : ∀ q, BInv es n q a es.length u → Ep (fun k => spec_l02Reach.l0 k q ((a + 1 : Nat) : Int) (n : Int) es) Q) :
  ∀ (d i : Nat) (q : List Int), i + d = es.length → BInv es n q a i u → Ep (fun k => spec_l02Reach.l1 k q (a : Int) es (es.length : Int) (i : Int) (n : Int) es) Q := by
 intro d
 induction d with
 | zero =>
  intro i q hi hb
  refine Ep.up ?_
  simp only [spec_l02Reach.l1]
  refine Ep.neg (by omega) ?_
  have := hb.lt
  have := hb.len
  rw [wrap_succ (by omega)]
  have e : i = es.length := by omega
  subst e
  exact hk q hb
 | succ d ih =>
  intro i q hi hb
  have hlt : i < es.length := by omega
  have hal := hb.lt
  have hql := hb.len
  have he := hes es[i] (List.getElem_mem hlt)
  have heok := he
  unfold EOk at he
  have hadj : Adj es es[i].f0 es[i].f1 := ⟨es[i], List.getElem_mem hlt, .inl ⟨rfl, rfl⟩⟩
  -- the second test, behind the first
  have second : ∀ q', BInv es n q' a i u → (es[i].f0 = u → es[i].f1 ∈ q') → Ep (fun k => if (0 : Int) ≤ (a : Int) then (if (a : Int) < (q'.length : Int) then (if es[i].f1 = rd q' (a : Int) then ((spec_l02Has.f k q' es[i].f0).bind fun t => (if t = true then (spec_l02Reach.l1 k q' (a : Int) es (es.length : Int) (wrap64 ((i : Int) + 1)) (n : Int) es) else (if q'.length < 17592186044416 then (spec_l02Reach.l1 k (q' ++ [es[i].f0]) (a : Int) es (es.length : Int) (wrap64 ((i : Int) + 1)) (n : Int) es) else (none)))) else (spec_l02Reach.l1 k q' (a : Int) es (es.length : Int) (wrap64 ((i : Int) + 1)) (n : Int) es)) else (none)) else (none)) Q := by
   intro q' hb' h0
   have hal' := hb'.lt
   have hql' := hb'.len
   refine Ep.pos (by omega) (Ep.pos (by omega) ?_)
   rw [hb'.rd, wrap_succ (by omega)]
   refine Ep.ite (fun h1 => ?_) (fun h1 => ih (i + 1) q' (by omega) (hb'.next hlt h0 (fun x => absurd x h1)))
   refine Ep.bind (specHas q' _ (by omega)) ?_
   rintro _ rfl
   refine Ep.ite (fun h2 => ih (i + 1) q' (by omega) (hb'.next hlt h0 (fun _ => by simpa using h2))) (fun h2 => Ep.pos (by omega) ?_)
   have h2' : es[i].f0 ∉ q' := by simpa using h2
   have hb2 := hb'.push hes h2' (by rw [← h1]; exact hadj.symm)
   exact ih (i + 1) _ (by omega) (hb2.next hlt (fun x => List.mem_append_left _ (h0 x)) (fun _ => by simp))
  refine Ep.up ?_
  simp only [spec_l02Reach.l1]
  refine Ep.pos (by omega) (Ep.pos (by omega) (Ep.pos (by omega) (Ep.pos (by omega) (Ep.pos (by omega) ?_))))
  rw [rdE_get hlt, hb.rd]
  refine Ep.ite (fun h0 => ?_) (fun h0 => ?_)
  ·refine Ep.bind (specHas q _ (by omega)) ?_
   rintro _ rfl
   refine Ep.up ?_
   simp only [spec_l02Reach.j2]
   refine Ep.ite (fun h1 => Ep.pos (by omega) ?_) (fun h1 => second q hb (fun _ => by simpa using h1))
   have h1' : es[i].f1 ∉ q := by simpa using h1
   refine Ep.bind0 rfl ?_
   exact second _ (hb.push hes h1' (by rw [← h0]; exact hadj)) (fun _ => by simp)
  ·refine Ep.up ?_
   simp only [spec_l02Reach.j2]
   exact Ep.neg (by simp) (second q hb (fun x => absurd x h0))
theorem specReach_l0 (n : Nat) (hn : 1 ≤ n ∧ n ≤ 6) (es : List E) (hl : es.length ≤ 12) (hes : ∀ e ∈ es, EOk n e) : ∀ (d a : Nat) (q : List Int), a + d = 7 → a ≤ q.length → QOk es n q → (0 : Int) ∈ q → (∀ x ∈ q.take a, ∀ b, Adj es x b → b ∈ q) →
  Ep (fun k => spec_l02Reach.l0 k q (a : Int) (n : Int) es) (fun r => (r.length = n ↔ Joined n es) ∧ r.length ≤ 6) := by
 intro d
 induction d with
 | zero =>
  intro a q ha hq hok _ _
  have := nodup_len n q hok.1 (fun v hv => (hok.2 v hv).1)
  omega
 | succ d ih =>
  intro a q ha hq hok h0 hdone
  have hlen := nodup_len n q hok.1 (fun v hv => (hok.2 v hv).1)
  refine Ep.up ?_
  simp only [spec_l02Reach.l0]
  refine Ep.ite (fun hlt => ?_) (fun hge => Ep.now ?_)
  ·have hlt' : a < q.length := by omega
   have hb : BInv es n q a 0 q[a] := ⟨hok, h0, hdone, List.getElem?_eq_getElem hlt', fun e he => by simp at he⟩
   refine specReach_l1 n hn.2 es hl hes a q[a] ?_ es.length 0 q (by omega) hb
   intro q' hb'
   refine ih (a + 1) q' (by omega) (by have := hb'.lt; omega) hb'.ok hb'.zero ?_
   intro x hx b hadj
   have hal := hb'.lt
   rw [List.take_succ_eq_append_getElem hal] at hx
   rcases List.mem_append.1 hx with hx | hx
   ·exact hb'.done x hx b hadj
   ·have hx' : x = q'[a] := List.mem_singleton.1 hx
    have hu : q'[a] = q[a] := by
     have := hb'.at_
     rw [List.getElem?_eq_getElem hal] at this
     exact Option.some.inj this
    obtain ⟨e, he, h⟩ := hadj
    have hp := hb'.part e (by rw [List.take_of_length_le (Nat.le_refl _)]; exact he)
    rcases h with ⟨x0, x1⟩ | ⟨x0, x1⟩
    ·rw [← x1]
     exact hp.1 (by rw [x0, hx', hu])
    ·rw [← x0]
     exact hp.2 (by rw [x1, hx', hu])
  ·have hfull : q.take a = q := List.take_of_length_le (by omega)
   rw [hfull] at hdone
   exact ⟨queue_joined hn.1 hok h0 hdone, by omega⟩
theorem specReach (n : Nat) (hn : 1 ≤ n ∧ n ≤ 6) (es : List E) (hl : es.length ≤ 12) (hes : ∀ e ∈ es, EOk n e) : Ep (fun k => spec_l02Reach.f k (n : Int) es) (fun r => (r.length = n ↔ Joined n es) ∧ r.length ≤ 6) := by
 simp only [spec_l02Reach.f]
 refine specReach_l0 n hn es hl hes 7 0 [0] rfl (by simp) ⟨by simp, fun v hv => ?_⟩ (by simp) (fun x hx => by simp at hx)
 rw [List.mem_singleton.1 hv]
 exact ⟨⟨Int.le_refl _, by omega⟩, .refl⟩
def SortedTo (es : List E) (i : Nat) : Prop := ∀ j, (h : j + 1 < es.length) → j + 1 < i → leE es[j] es[j + 1]
theorem specGraph_l0 (n : Nat) (es : List E) (hes : EsOk n es) : ∀ (d i : Nat), i + d = es.length → SortedTo es i → Ep (fun k => spec_GraphOk.l0 k es (es.length : Int) (i : Int) (n : Int) es) (· = gOk n es) := by
 have hes' := hes
 obtain ⟨hn1, hn6, hl, hok⟩ := hes
 intro d
 induction d with
 | zero =>
  intro i hi hs
  refine Ep.up ?_
  simp only [spec_GraphOk.l0]
  refine Ep.neg (by omega) ?_
  refine Ep.bind (specReach n (by omega) es hl hok) ?_
  rintro r ⟨hr, _⟩
  refine Ep.now ?_
  have hsorted : Sorted es := fun j h => hs j h (by omega)
  have hiff : GOk n es ↔ Joined n es := ⟨fun h => h.2.2, fun h => ⟨hes', hsorted, h⟩⟩
  by_cases hj : Joined n es
  ·have : gOk n es = true := gOk_iff.2 (hiff.2 hj)
   rw [this, hr.2 hj]
   simp
  ·have : gOk n es = false := by
    cases hg : gOk n es with
    | false => rfl
    | true => exact absurd (hiff.1 (gOk_iff.1 hg)) hj
   rw [this]
   have hne : r.length ≠ n := fun e => hj (hr.1 e)
   simp
   omega
 | succ d ih =>
  intro i hi hs
  have hlt : i < es.length := by omega
  have hbad : ∀ j, i = j + 1 → (hj : j < es.length) → ¬ leE es[j] es[i] → gOk n es = false := by
   intro j hij hj hx
   subst hij
   cases hg : gOk n es with
   | false => rfl
   | true => exact absurd ((gOk_iff.1 hg).2.1 j hlt) hx
  have hgood : (∀ j, i = j + 1 → (hj : j < es.length) → leE es[j] es[i]) → Ep (fun k => spec_GraphOk.l0 k es (es.length : Int) (wrap64 ((i : Int) + 1)) (n : Int) es) (· = gOk n es) := by
   intro hx
   rw [wrap_succ (by omega)]
   refine ih (i + 1) (by omega) ?_
   intro j h hji
   by_cases e : j + 1 < i
   ·exact hs j h e
   ·have e' : i = j + 1 := by omega
    have := hx j e' (by omega)
    subst e'
    exact this
  refine Ep.up ?_
  simp only [spec_GraphOk.l0]
  refine Ep.pos (by omega) (Ep.pos (by omega) (Ep.pos (by omega) ?_))
  refine Ep.ite (fun hpos => ?_) (fun hz => hgood (fun j hij _ => by omega))
  obtain ⟨j, rfl⟩ : ∃ j, i = j + 1 := ⟨i - 1, by omega⟩
  have hw : wrap64 (((j + 1 : Nat) : Int) - 1) = (j : Int) := by rw [wrap_id (by omega) (by omega)]; omega
  rw [hw, rdE_get hlt, rdE_get (show j < es.length by omega)]
  refine Ep.pos (by omega) (Ep.pos (by omega) ?_)
  refine Ep.ite (fun h0 => Ep.now ?_) (fun h0 => ?_)
  ·exact (hbad j rfl (by omega) (by unfold leE; omega)).symm
  ·refine Ep.ite (fun h1 => ?_) (fun h1 => hgood (fun j' hij _ => ?_))
   ·refine Ep.ite (fun h2 => Ep.now ?_) (fun h2 => hgood (fun j' hij _ => ?_))
    ·exact (hbad j rfl (by omega) (by unfold leE; omega)).symm
    ·obtain rfl : j' = j := by omega
     unfold leE
     omega
   ·obtain rfl : j' = j := by omega
    unfold leE
    omega
theorem specGraph (n : Int) (es : List E) : Ep (fun k => spec_GraphOk.f k n es) (· = gOk n es) := by
 simp only [spec_GraphOk.f]
 refine Ep.bind (specEdges n es) ?_
 rintro _ rfl
 refine Ep.ite (fun h => ?_) (fun h => Ep.now ?_)
 ·have h' : EsOk n es := by simpa using h
  have h1 := h'.1
  obtain ⟨m, rfl⟩ := Int.eq_ofNat_of_zero_le (a := n) (by omega)
  exact specGraph_l0 m es h' es.length 0 (by omega) (fun j h hj => by omega)
 ·have h' : ¬ EsOk n es := by simpa using h
  cases hg : gOk n es with
  | false => rfl
  | true => exact absurd (gOk_iff.1 hg).1 h'
end Go.Proofs.Ytnbljcgdgblgoaa.Cf
end

section
namespace Go.Proofs.Ytnbljcgdgblgoaa.Cf
set_option linter.unusedVariables false
set_option linter.unusedSimpArgs false
open Go.RowKit Go.Proofs.YtnbljcgdgblgoaaW.PrintWords Go.Proofs.YtnbljcgdgblgoaaW.PrintMore Go.Proofs.Ytnbljcgdgblgoaa.P
theorem within_eq (a b c : Int) : impl_within.f a b c = some (decide (b ≤ a ∧ a ≤ c)) := by
 unfold impl_within.f
 by_cases h : a ≥ b
 ·rw [if_pos h]
  have : (b ≤ a ∧ a ≤ c) ↔ a ≤ c := ⟨fun x => x.2, fun x => ⟨h, x⟩⟩
  simp only [this]
 ·rw [if_neg h]
  have : ¬ (b ≤ a ∧ a ≤ c) := fun x => h x.1
  simp only [this, decide_false]
theorem implEdges_l0 (n : Int) (es : List E) (hl : es.length ≤ 12) : ∀ (d i : Nat), i + d = es.length → Ep (fun k => impl_EdgesOk.l0 k es (es.length : Int) (i : Int) n es) (· = decide (∀ e ∈ es.drop i, EOk n e)) := by
 intro d
 induction d with
 | zero =>
  intro i hi
  refine Ep.up ?_
  simp only [impl_EdgesOk.l0]
  refine Ep.neg (by omega) (Ep.now ?_)
  rw [List.drop_of_length_le (by omega)]
  simp
 | succ d ih =>
  intro i hi
  have hlt : i < es.length := by omega
  have no : ¬ EOk n es[i] → false = decide (∀ e ∈ es.drop i, EOk n e) := fun h => by simp only [forall_drop hlt, h, false_and, decide_false]
  refine Ep.up ?_
  simp only [impl_EdgesOk.l0]
  refine Ep.pos (by omega) (Ep.pos (by omega) (Ep.pos (by omega) ?_))
  rw [rdE_get hlt]
  refine Ep.ite (fun h => Ep.now (no (by unfold EOk; omega))) (fun h0 => ?_)
  refine Ep.ite (fun h => Ep.now (no (by unfold EOk; omega))) (fun h1 => ?_)
  refine Ep.ite (fun h => Ep.now (no (by unfold EOk; omega))) (fun h2 => ?_)
  rw [wrap_succ (by omega)]
  refine (ih (i + 1) (by omega)).mono ?_
  rintro _ rfl
  have : EOk n es[i] := by unfold EOk; omega
  simp only [forall_drop hlt, this, true_and]
theorem implEdges (n : Int) (es : List E) : Ep (fun k => impl_EdgesOk.f k n es) (· = decide (EsOk n es)) := by
 simp only [impl_EdgesOk.f]
 refine Ep.bind0 (within_eq _ _ _) ?_
 refine Ep.ite (fun h0 => ?_) (fun h0 => ?_)
 ·have h0' : 1 ≤ n ∧ n ≤ 6 := by simpa using h0
  refine Ep.up ?_
  simp only [impl_EdgesOk.j0]
  refine Ep.ite (fun h1 => Ep.now ?_) (fun h1 => ?_)
  ·have : ¬ EsOk n es := by
    have : (es.length : Int) > 12 := by simpa using h1
    unfold EsOk
    omega
   simp [this]
  ·have hl : es.length ≤ 12 := by
    have : ¬ (es.length : Int) > 12 := by simpa using h1
    omega
   refine (implEdges_l0 n es hl es.length 0 (by omega)).mono ?_
   rintro _ rfl
   rw [List.drop_zero]
   unfold EsOk
   simp only [h0'.1, h0'.2, hl, true_and]
 ·have h0' : ¬ (1 ≤ n ∧ n ≤ 6) := by simpa using h0
  refine Ep.up ?_
  simp only [impl_EdgesOk.j0]
  refine Ep.pos (by simp) (Ep.now ?_)
  have : ¬ EsOk n es := by
   unfold EsOk
   omega
  simp [this]
theorem wraps_i64 (n : Int) (h0 : 0 ≤ n) (h1 : n < 2 ^ 62) : IntKind.i64.wrap n = n := by rw [IntKind.wrap_i64]; omega
theorem or_nat {a b : Nat} (ha : a < 2 ^ 62) (hb : b < 2 ^ 62) : Go.bits .or .i64 (a : Int) (b : Int) = ((a ||| b : Nat) : Int) := (bits_nat .i64 62 (by decide) wraps_i64 a b ha hb).2
theorem and_nat {a b : Nat} (ha : a < 2 ^ 62) (hb : b < 2 ^ 62) : Go.bits .and .i64 (a : Int) (b : Int) = ((a &&& b : Nat) : Int) := (bits_nat .i64 62 (by decide) wraps_i64 a b ha hb).1
theorem shl_nat {a : Nat} (ha : a < 62) : shl .i64 1 (a : Int) = ((2 ^ a : Nat) : Int) := by
 unfold shl
 have : (2 : Int) ^ a < 2 ^ 62 := by
  have := Nat.pow_lt_pow_right (a := 2) (by decide) ha
  exact_mod_cast this
 rw [Int.toNat_natCast, Nat.min_eq_left (by show a ≤ 64; omega), Int.one_mul, wraps_i64 _ (by have := Int.pow_nonneg (n := 2) (m := a) (by decide); omega) this]
 simp
theorem shr_nat {m a : Nat} (ha : a < 62) : shr .i64 (m : Int) (a : Int) = ((m / 2 ^ a : Nat) : Int) := by
 unfold shr
 rw [Int.toNat_natCast, Nat.min_eq_left (by show a ≤ 64; omega)]
 simp
theorem bit_test {m : Nat} (hm : m < 2 ^ 62) {a : Nat} (ha : a < 62) : Go.bits .and .i64 (shr .i64 (m : Int) (a : Int)) 1 = 1 ↔ m.testBit a = true := by
 rw [shr_nat ha, show (1 : Int) = ((1 : Nat) : Int) from rfl, and_nat (Nat.lt_of_le_of_lt (Nat.div_le_self _ _) hm) (by decide)]
 rw [Nat.testBit_eq_decide_div_mod_eq, Nat.and_one_is_mod]
 generalize m / 2 ^ a = x
 simp only [decide_eq_true_eq]
 omega
theorem bit_cases {m a : Nat} : m.testBit a = true ∨ m.testBit a = false := by cases m.testBit a <;> simp
theorem MOk.lt {es : List E} {n m : Nat} (h : MOk es n m) (hn : n ≤ 6) : m < 2 ^ 6 := by
 apply Nat.lt_pow_two_of_testBit
 intro i hi
 cases hb : m.testBit i with
 | false => rfl
 | true => have := (h i hb).1; omega
theorem step_lt {m : Nat} {e : E} {n : Int} (hm : m < 2 ^ 6) (he : EOk n e) (hn : n ≤ 6) : stepM m e < 2 ^ 6 := by
 unfold EOk at he
 unfold stepM
 split
 ·apply Nat.or_lt_two_pow hm
  apply Nat.or_lt_two_pow
  ·exact Nat.pow_lt_pow_right (by decide) (by omega)
  ·exact Nat.pow_lt_pow_right (by decide) (by omega)
 ·exact hm
theorem round_lt {n : Int} (hn : n ≤ 6) : ∀ (es : List E), (∀ e ∈ es, EOk n e) → ∀ {m : Nat}, m < 2 ^ 6 → roundM es m < 2 ^ 6 := by
 intro es
 induction es with
 | nil => intro _ m h; exact h
 | cons e r ih => intro hes m h; exact ih (fun x hx => hes x (List.mem_cons_of_mem _ hx)) (step_lt h (hes e List.mem_cons_self) hn)
open Classical in
noncomputable def joinedB (n : Int) (es : List E) : Bool := decide (Joined n es)
theorem joinedB_iff {n : Int} {es : List E} : joinedB n es = true ↔ Joined n es := by unfold joinedB; simp
theorem implConn_l1 (n : Int) (hn : n ≤ 6) (es : List E) (hl : es.length ≤ 1048576) (hes : ∀ e ∈ es, EOk n e) (x8 x9 : Int) {Q : Bool → Prop} (m0 : Nat)
  (hk : Ep (fun k => impl_connected.l0 k n es ((roundM es m0 : Nat) : Int) x8 (wrap64 (x9 + 1))) Q) :
  ∀ (d i : Nat) (m : Nat), i + d = es.length → m < 2 ^ 6 → roundM (es.drop i) m = roundM es m0 → Ep (fun k => impl_connected.l1 k n es (m : Int) x8 x9 es (es.length : Int) (i : Int)) Q := by
 intro d
 induction d with
 | zero =>
  intro i m hi hm hr
  refine Ep.up ?_
  simp only [impl_connected.l1]
  refine Ep.neg (by omega) ?_
  rw [List.drop_of_length_le (by omega)] at hr
  have e : m = roundM es m0 := hr
  rw [e]
  exact hk
 | succ d ih =>
  intro i m hi hm hr
  have hlt : i < es.length := by omega
  have hek := hes es[i] (List.getElem_mem hlt)
  have he := hek
  unfold EOk at he
  rw [List.drop_eq_getElem_cons hlt] at hr
  have hr' : roundM (es.drop (i + 1)) (stepM m es[i]) = roundM es m0 := hr
  have hst := step_lt hm hek hn
  obtain ⟨a, ha⟩ := Int.eq_ofNat_of_zero_le he.1
  obtain ⟨b, hb⟩ := Int.eq_ofNat_of_zero_le (a := es[i].f1) (by omega)
  have ha6 : a < 6 := by omega
  have hb6 : b < 6 := by omega
  have hm62 : m < 2 ^ 62 := by omega
  have pa : 2 ^ a < 2 ^ 6 := Nat.pow_lt_pow_right (by decide) ha6
  have pb : 2 ^ b < 2 ^ 6 := Nat.pow_lt_pow_right (by decide) hb6
  have pab : 2 ^ a ||| 2 ^ b < 2 ^ 6 := Nat.or_lt_two_pow pa pb
  have hset : Go.bits .or .i64 (m : Int) (Go.bits .or .i64 (shl .i64 1 (a : Int)) (shl .i64 1 (b : Int))) = ((m ||| (2 ^ a ||| 2 ^ b) : Nat) : Int) := by
   rw [shl_nat (by omega), shl_nat (by omega), or_nat (by omega) (by omega), or_nat (by omega) (by omega)]
  have hstep : (m.testBit a || m.testBit b) = true → stepM m es[i] = m ||| (2 ^ a ||| 2 ^ b) := by
   intro h
   unfold stepM
   rw [ha, hb]
   simp only [Int.ofNat_eq_natCast, Int.toNat_natCast]
   rw [if_pos h]
  have hstay : (m.testBit a || m.testBit b) = false → stepM m es[i] = m := by
   intro h
   unfold stepM
   rw [ha, hb]
   simp only [Int.ofNat_eq_natCast, Int.toNat_natCast]
   rw [if_neg (by rw [h]; simp)]
  refine Ep.up ?_
  simp only [impl_connected.l1]
  refine Ep.pos (by omega) (Ep.pos (by omega) (Ep.pos (by omega) ?_))
  rw [rdE_get hlt, ha, hb]
  refine Ep.pos (by omega) ?_
  rw [hset, wrap_succ (by omega)]
  refine Ep.ite (fun h => Ep.pos (by omega) ?_) (fun h => Ep.pos (by omega) (Ep.ite (fun h2 => ?_) (fun h2 => ?_)))
  ·have := (bit_test hm62 (by omega)).1 h
   rw [← hstep (by rw [this]; rfl)]
   exact ih (i + 1) _ (by omega) hst hr'
  ·have := (bit_test hm62 (by omega)).1 h2
   rw [← hstep (by rw [this]; simp)]
   exact ih (i + 1) _ (by omega) hst hr'
  ·have h1 : m.testBit a = false := by
    rcases bit_cases (m := m) (a := a) with x | x
    ·exact absurd ((bit_test hm62 (by omega)).2 x) h
    ·exact x
   have h3 : m.testBit b = false := by
    rcases bit_cases (m := m) (a := b) with x | x
    ·exact absurd ((bit_test hm62 (by omega)).2 x) h2
    ·exact x
   have := hstay (by rw [h1, h3]; rfl)
   rw [this] at hr'
   exact ih (i + 1) _ (by omega) hm hr'
theorem implConn_l0 (n : Nat) (hn : 1 ≤ n ∧ n ≤ 6) (es : List E) (hl : es.length ≤ 1048576) (hes : ∀ e ∈ es, EOk n e) : ∀ (d i m : Nat), i + d = n → m < 2 ^ 6 → timesM es d m = timesM es n 1 → Ep (fun k => impl_connected.l0 k (n : Int) es (m : Int) (n : Int) (i : Int)) (· = joinedB n es) := by
 intro d
 induction d with
 | zero =>
  intro i m hi hm hr
  refine Ep.up ?_
  simp only [impl_connected.l0]
  refine Ep.neg (by omega) (Ep.pos (by omega) (Ep.now ?_))
  have hr' : m = timesM es n 1 := hr
  have hp : 1 ≤ 2 ^ n := Nat.one_le_two_pow
  have hp2 : 2 ^ n ≤ 2 ^ 6 := Nat.pow_le_pow_right (by decide) hn.2
  rw [shl_nat (by omega), wrap_id (by omega) (by omega)]
  rw [Bool.eq_iff_iff, joinedB_iff, ← times_joined hn.1 hes, ← hr']
  simp only [beq_iff_eq]
  omega
 | succ d ih =>
  intro i m hi hm hr
  refine Ep.up ?_
  simp only [impl_connected.l0]
  refine Ep.pos (by omega) ?_
  refine implConn_l1 n (by omega) es hl hes _ _ m ?_ es.length 0 m (by omega) hm (by rw [List.drop_zero])
  rw [wrap_succ (by omega)]
  exact ih (i + 1) _ (by omega) (round_lt (by omega) es hes hm) hr
theorem implConn (n : Nat) (hn : 1 ≤ n ∧ n ≤ 6) (es : List E) (hl : es.length ≤ 1048576) (hes : ∀ e ∈ es, EOk n e) : Ep (fun k => impl_connected.f k (n : Int) es) (· = joinedB n es) := by
 simp only [impl_connected.f]
 exact implConn_l0 n hn es hl hes n 0 1 (by omega) (by decide) rfl
end Go.Proofs.Ytnbljcgdgblgoaa.Cf
end

section
namespace Go.Proofs.Ytnbljcgdgblgoaa.P
open Go.RowKit Go.Proofs.YtnbljcgdgblgoaaW.PrintWords Go.Proofs.YtnbljcgdgblgoaaW.PrintLast Go.Proofs.YtnbljcgdgblgoaaW.PrintMore
attribute [local go_sem] max2_int min2_int max_two min_two max_three min_three max_four min_four
set_option linter.unusedVariables false
set_option linter.unusedSimpArgs false
def cmp_isNaN_int.f (a0 : Int) : Option (Bool) := some (a0 != a0)
theorem cmp_isNaN_int.calls (a0 : Int) (r : Bool) (w : World) (h : cmp_isNaN_int.f a0 = some r) :
  Calls Try.prog 133 #[.int .i64 a0] w fun e w' => e = .returned (.bool r) ∧ Drawn0 w w' := by
 have H : (some (a0 != a0)) = some r := h; clear h; obtain rfl := Option.some.inj H; go_enter Try.func133, Try.ntmps133; go_wp2; go_ret; exact ⟨zz5, by repeat (first | exact Drawn0.refl _ | apply Drawn0.step)⟩
def cmp_Compare_int.f (a0 : Int) (a1 : Int) : Option (Int) := (cmp_isNaN_int.f a0).bind fun cZ => ((cmp_isNaN_int.f a1).bind fun bA => (if cZ = true then (if bA = true then (some 0) else (some (-1))) else (if bA = true then (some 1) else (if a0 < a1 then (some (-1)) else (if a0 > a1 then (some 1) else (some 0))))))
theorem cmp_Compare_int.calls (a0 : Int) (a1 : Int) (r : Int) (w : World) (h : cmp_Compare_int.f a0 a1 = some r) :
  Calls Try.prog 100 #[.int .i64 a0, .int .i64 a1] w fun e w' => e = .returned (.int .i64 r) ∧ Drawn0 w w' := by
 have H : ((cmp_isNaN_int.f a0).bind fun cZ => ((cmp_isNaN_int.f a1).bind fun bA => (if cZ = true then (if bA = true then (some 0) else (some (-1))) else (if bA = true then (some 1) else (if a0 < a1 then (some (-1)) else (if a0 > a1 then (some 1) else (some 0))))))) = some r := h; clear h; obtain ⟨cZ, A30, H⟩ := zO_ H; (try dsimp only at H); have A3 := zK_ A30; clear A30; obtain ⟨bA, A40, H⟩ := zO_ H; (try dsimp only at H); have A4 := zK_ A40; clear A40; by_cases c5 : cZ = true
 ·subst c5; rw [if_pos rfl] at H; by_cases c6 : bA = true
  ·subst c6; rw [if_pos rfl] at H; obtain rfl := Option.some.inj H; go_enter Try.func100, Try.ntmps100; (go_wp2_with (first | ((with_reducible refine gate_callee (f := 133) rfl ?_); refine goesL_ (some 8) rfl rfl Try.func133 (by kernel_rfl) rfl #[.int .i64 a0] rfl zz4 ?_; (with_reducible refine (cmp_isNaN_int.calls a0 true _ A3.out).mono ?_); rintro e w' ⟨rfl, ⟨nd, rfl⟩⟩; refine ⟨_, rfl, ?_⟩) | ((with_reducible refine gate_callee (f := 133) rfl ?_); refine goesL_ (some 10) rfl rfl Try.func133 (by kernel_rfl) rfl #[.int .i64 a1] rfl zz4 ?_; (with_reducible refine (cmp_isNaN_int.calls a1 true _ A4.out).mono ?_); rintro e w' ⟨rfl, ⟨nd, rfl⟩⟩; refine ⟨_, rfl, ?_⟩))); go_ret; exact ⟨zz5, by repeat (first | exact Drawn0.refl _ | apply Drawn0.step)⟩
  replace c6 := Bool.eq_false_iff.mpr c6; subst c6; rw [if_neg (show ¬ (false = true) by decide)] at H; obtain rfl := Option.some.inj H; go_enter Try.func100, Try.ntmps100; (go_wp2_with (first | ((with_reducible refine gate_callee (f := 133) rfl ?_); refine goesL_ (some 8) rfl rfl Try.func133 (by kernel_rfl) rfl #[.int .i64 a0] rfl zz4 ?_; (with_reducible refine (cmp_isNaN_int.calls a0 true _ A3.out).mono ?_); rintro e w' ⟨rfl, ⟨nd, rfl⟩⟩; refine ⟨_, rfl, ?_⟩) | ((with_reducible refine gate_callee (f := 133) rfl ?_); refine goesL_ (some 10) rfl rfl Try.func133 (by kernel_rfl) rfl #[.int .i64 a1] rfl zz4 ?_; (with_reducible refine (cmp_isNaN_int.calls a1 false _ A4.out).mono ?_); rintro e w' ⟨rfl, ⟨nd, rfl⟩⟩; refine ⟨_, rfl, ?_⟩))); go_ret; exact ⟨zz5, by repeat (first | exact Drawn0.refl _ | apply Drawn0.step)⟩
 replace c5 := Bool.eq_false_iff.mpr c5; subst c5; rw [if_neg (show ¬ (false = true) by decide)] at H; by_cases c7 : bA = true
 ·subst c7; rw [if_pos rfl] at H; obtain rfl := Option.some.inj H; go_enter Try.func100, Try.ntmps100; (go_wp2_with (first | ((with_reducible refine gate_callee (f := 133) rfl ?_); refine goesL_ (some 8) rfl rfl Try.func133 (by kernel_rfl) rfl #[.int .i64 a0] rfl zz4 ?_; (with_reducible refine (cmp_isNaN_int.calls a0 false _ A3.out).mono ?_); rintro e w' ⟨rfl, ⟨nd, rfl⟩⟩; refine ⟨_, rfl, ?_⟩) | ((with_reducible refine gate_callee (f := 133) rfl ?_); refine goesL_ (some 10) rfl rfl Try.func133 (by kernel_rfl) rfl #[.int .i64 a1] rfl zz4 ?_; (with_reducible refine (cmp_isNaN_int.calls a1 true _ A4.out).mono ?_); rintro e w' ⟨rfl, ⟨nd, rfl⟩⟩; refine ⟨_, rfl, ?_⟩))); go_ret; exact ⟨zz5, by repeat (first | exact Drawn0.refl _ | apply Drawn0.step)⟩
 replace c7 := Bool.eq_false_iff.mpr c7; subst c7; rw [if_neg (show ¬ (false = true) by decide)] at H; by_cases c8 : a0 < a1
 ·rw [if_pos c8] at H; have fL := decide_eq_true c8; clear c8; obtain rfl := Option.some.inj H; go_enter Try.func100, Try.ntmps100; (go_wp2_with (first | ((with_reducible refine gate_callee (f := 133) rfl ?_); refine goesL_ (some 8) rfl rfl Try.func133 (by kernel_rfl) rfl #[.int .i64 a0] rfl zz4 ?_; (with_reducible refine (cmp_isNaN_int.calls a0 false _ A3.out).mono ?_); rintro e w' ⟨rfl, ⟨nd, rfl⟩⟩; refine ⟨_, rfl, ?_⟩) | ((with_reducible refine gate_callee (f := 133) rfl ?_); refine goesL_ (some 10) rfl rfl Try.func133 (by kernel_rfl) rfl #[.int .i64 a1] rfl zz4 ?_; (with_reducible refine (cmp_isNaN_int.calls a1 false _ A4.out).mono ?_); rintro e w' ⟨rfl, ⟨nd, rfl⟩⟩; refine ⟨_, rfl, ?_⟩))); go_ret; exact ⟨zz5, by repeat (first | exact Drawn0.refl _ | apply Drawn0.step)⟩
 rw [if_neg c8] at H; have fL := decide_eq_false c8; clear c8; by_cases c9 : a0 > a1
 ·rw [if_pos c9] at H; have fJ : decide (a1 < a0) = true := decide_eq_true c9; clear c9; obtain rfl := Option.some.inj H; go_enter Try.func100, Try.ntmps100; (go_wp2_with (first | ((with_reducible refine gate_callee (f := 133) rfl ?_); refine goesL_ (some 8) rfl rfl Try.func133 (by kernel_rfl) rfl #[.int .i64 a0] rfl zz4 ?_; (with_reducible refine (cmp_isNaN_int.calls a0 false _ A3.out).mono ?_); rintro e w' ⟨rfl, ⟨nd, rfl⟩⟩; refine ⟨_, rfl, ?_⟩) | ((with_reducible refine gate_callee (f := 133) rfl ?_); refine goesL_ (some 10) rfl rfl Try.func133 (by kernel_rfl) rfl #[.int .i64 a1] rfl zz4 ?_; (with_reducible refine (cmp_isNaN_int.calls a1 false _ A4.out).mono ?_); rintro e w' ⟨rfl, ⟨nd, rfl⟩⟩; refine ⟨_, rfl, ?_⟩))); go_ret; exact ⟨zz5, by repeat (first | exact Drawn0.refl _ | apply Drawn0.step)⟩
 rw [if_neg c9] at H; have fJ : decide (a1 < a0) = false := decide_eq_false c9; clear c9; obtain rfl := Option.some.inj H; go_enter Try.func100, Try.ntmps100; (go_wp2_with (first | ((with_reducible refine gate_callee (f := 133) rfl ?_); refine goesL_ (some 8) rfl rfl Try.func133 (by kernel_rfl) rfl #[.int .i64 a0] rfl zz4 ?_; (with_reducible refine (cmp_isNaN_int.calls a0 false _ A3.out).mono ?_); rintro e w' ⟨rfl, ⟨nd, rfl⟩⟩; refine ⟨_, rfl, ?_⟩) | ((with_reducible refine gate_callee (f := 133) rfl ?_); refine goesL_ (some 10) rfl rfl Try.func133 (by kernel_rfl) rfl #[.int .i64 a1] rfl zz4 ?_; (with_reducible refine (cmp_isNaN_int.calls a1 false _ A4.out).mono ?_); rintro e w' ⟨rfl, ⟨nd, rfl⟩⟩; refine ⟨_, rfl, ?_⟩))); go_ret; exact ⟨zz5, by repeat (first | exact Drawn0.refl _ | apply Drawn0.step)⟩
def impl_compareEdges.f (aD : Int) (dK : Int) (dR : Int) (gO : Int) : Option (Int) := (cmp_Compare_int.f aD dR).bind fun bL => (if bL = 0 then ((cmp_Compare_int.f dK gO).bind fun i4 => (some i4)) else (some bL))
theorem impl_compareEdges.calls (aD : Int) (dK : Int) (dR : Int) (gO : Int) (r : Int) (w : World) (h : impl_compareEdges.f aD dK dR gO = some r) :
  Calls Try.prog 92 #[.agg #[.int .i64 aD, .int .i64 dK], .agg #[.int .i64 dR, .int .i64 gO]] w fun e w' => e = .returned (.int .i64 r) ∧ Below w.heap.size w w' := by
 have hu57 := Try.underlying57; have HB := zK_ (Below.refl w.heap.size w); have H : ((cmp_Compare_int.f aD dR).bind fun bL => (if bL = 0 then ((cmp_Compare_int.f dK gO).bind fun i4 => (some i4)) else (some bL))) = some r := h; clear h; obtain ⟨bL, A30, H⟩ := zO_ H; (try dsimp only at H); have A3 := zK_ A30; clear A30; by_cases c4 : bL = 0; rotate_left
 ·rw [if_neg c4] at H; have cY : (bL == 0) = false := beq_eq_false_iff_ne.mpr c4; have jS : (bL != 0) = true := bne_iff_ne.mpr c4; obtain rfl := Option.some.inj H; go_enter Try.func92, Try.ntmps92; (go_wp2_with (first | ((with_reducible refine gate_dst (N := 2) rfl ?_); refine box_event ?hg (N := 2) ?hd (cs := #[.int .i64 aD, .int .i64 dK]) (t := 57) ?hr ?_; (case hd => rfl); (case hg => rfl); (case hr => exact zz9); intro aE hg w11 hbox hb; have n_ := zA4 (below_step zz1 hb) hbox (zz10 : w.heap.size ≤ aE) (zz10 : w.heap.size ≤ aE); clear HB; obtain ⟨HB, aA, GW101, GE101⟩ := n_; clear hb hbox hg) | ((with_reducible refine gate_dst (N := 3) rfl ?_); refine box_event ?hg (N := 3) ?hd (cs := #[.int .i64 dR, .int .i64 gO]) (t := 57) ?hr ?_; (case hd => rfl); (case hg => rfl); (case hr => exact zz9); intro aZ hg w12 hbox hb; have n_ := zA7 (blk_below (g := aE) (o := .cells #[.int .i64 aD, .int .i64 dK] 57 (0, 0)) zz2 hb) (below_step zz0 hb) hbox (zz13 : w.heap.size ≤ aZ) (zz13 : w.heap.size ≤ aZ) (zz48 : aE ≠ aZ) (zz49 : aZ ≠ aE); clear aA HB; obtain ⟨aA, HB, aT, GW102, GE102, bQ, bV⟩ := n_; clear hb hbox hg; have oK := bQ.out; have oJ := bV.out; have eG := zC20 aA; have eF := zC21 aA; have dZ := blk_frozen aA.out 0; have dY := blk_frozen aA.out 1; have gK := zC20 aT; have gJ := zC21 aT; have gI := blk_frozen aT.out 0; have gH := blk_frozen aT.out 1) | ((with_reducible refine gate_callee (f := 100) rfl ?_); refine goesL_ (some 10) rfl rfl Try.func100 (by kernel_rfl) rfl #[.int .i64 aD, .int .i64 dR] rfl zz4 ?_; (with_reducible refine (cmp_Compare_int.calls aD dR bL _ A3.out).mono ?_); rintro e w' ⟨rfl, ⟨nd, rfl⟩⟩; refine ⟨_, rfl, ?_⟩))); go_ret; exact ⟨zz7, zz14⟩
 rw [if_pos c4] at H; have cY : (bL == 0) = true := beq_iff_eq.mpr c4; have jS : (bL != 0) = false := bne_eq_false_iff_eq.mpr c4; clear c4; obtain ⟨i4, A50, H⟩ := zO_ H; (try dsimp only at H); have A5 := zK_ A50; clear A50; obtain rfl := Option.some.inj H; go_enter Try.func92, Try.ntmps92; (go_wp2_with (first | ((with_reducible refine gate_dst (N := 2) rfl ?_); refine box_event ?hg (N := 2) ?hd (cs := #[.int .i64 aD, .int .i64 dK]) (t := 57) ?hr ?_; (case hd => rfl); (case hg => rfl); (case hr => exact zz9); intro aE hg w6 hbox hb; have n_ := zA4 (below_step zz1 hb) hbox (zz10 : w.heap.size ≤ aE) (zz10 : w.heap.size ≤ aE); clear HB; obtain ⟨HB, aA, GW101, GE101⟩ := n_; clear hb hbox hg) | ((with_reducible refine gate_dst (N := 3) rfl ?_); refine box_event ?hg (N := 3) ?hd (cs := #[.int .i64 dR, .int .i64 gO]) (t := 57) ?hr ?_; (case hd => rfl); (case hg => rfl); (case hr => exact zz9); intro aZ hg w7 hbox hb; have n_ := zA7 (blk_below (g := aE) (o := .cells #[.int .i64 aD, .int .i64 dK] 57 (0, 0)) zz2 hb) (below_step zz0 hb) hbox (zz13 : w.heap.size ≤ aZ) (zz13 : w.heap.size ≤ aZ) (zz48 : aE ≠ aZ) (zz49 : aZ ≠ aE); clear aA HB; obtain ⟨aA, HB, aT, GW102, GE102, bQ, bV⟩ := n_; clear hb hbox hg; have r6 := bQ.out; have rY := bV.out; have d8 := zC20 aA; have d7 := zC21 aA; have dV := blk_frozen aA.out 0; have dU := blk_frozen aA.out 1; have cN := zC20 aT; have cM := zC21 aT; have cK := blk_frozen aT.out 0; have cJ := blk_frozen aT.out 1) | ((with_reducible refine gate_callee (f := 100) rfl ?_); refine goesL_ (some 10) rfl rfl Try.func100 (by kernel_rfl) rfl #[.int .i64 aD, .int .i64 dR] rfl zz4 ?_; (with_reducible refine (cmp_Compare_int.calls aD dR bL _ A3.out).mono ?_); rintro e w' ⟨rfl, ⟨nd, rfl⟩⟩; refine ⟨_, rfl, ?_⟩) | ((with_reducible refine gate_callee (f := 100) rfl ?_); refine goesL_ (some 18) rfl rfl Try.func100 (by kernel_rfl) rfl #[.int .i64 dK, .int .i64 gO] rfl zz4 ?_; (with_reducible refine (cmp_Compare_int.calls dK gO i4 _ A5.out).mono ?_); rintro e w' ⟨rfl, ⟨nd, rfl⟩⟩; refine ⟨_, rfl, ?_⟩))); go_ret; exact ⟨zz7, zz14⟩
end Go.Proofs.Ytnbljcgdgblgoaa.P
end

section
namespace Go.Proofs.Ytnbljcgdgblgoaa.Cf
set_option linter.unusedVariables false
set_option linter.unusedSimpArgs false
open Go.RowKit Go.Proofs.YtnbljcgdgblgoaaW.PrintWords Go.Proofs.YtnbljcgdgblgoaaW.PrintLast Go.Proofs.YtnbljcgdgblgoaaW.PrintMore Go.Proofs.Ytnbljcgdgblgoaa.P
def cmpI (a b : Int) : Int := if a < b then -1 else if a > b then 1 else 0
theorem cmp_eq (a b : Int) : cmp_Compare_int.f a b = some (cmpI a b) := by
 unfold cmp_Compare_int.f cmp_isNaN_int.f cmpI
 simp
 split <;> (try split) <;> rfl
def cmpE (a b : E) : Int := if cmpI a.f0 b.f0 = 0 then cmpI a.f1 b.f1 else cmpI a.f0 b.f0
theorem cmpE_eq (a b : E) : impl_compareEdges.f a.f0 a.f1 b.f0 b.f1 = some (cmpE a b) := by
 unfold impl_compareEdges.f cmpE
 rw [cmp_eq, cmp_eq]
 simp only [Option.bind_some]
 split <;> rfl
theorem cmpE_lt (a b : E) : cmpE a b < 0 ↔ ¬ leE b a := by
 unfold cmpE cmpI leE
 by_cases h : a.f0 < b.f0
 ·simp [h]; try omega
 ·by_cases h2 : a.f0 > b.f0
  ·simp [h, h2]; try omega
  ·by_cases h3 : a.f1 < b.f1
   ·simp [h, h2, h3]; try omega
   ·by_cases h4 : a.f1 > b.f1
    ·simp [h, h2, h3, h4]; try omega
    ·simp [h, h2, h3, h4]; try omega
open Classical in
noncomputable def sortedB (es : List E) : Bool := decide (Sorted es)
theorem sortedB_iff {es : List E} : sortedB es = true ↔ Sorted es := by unfold sortedB; simp
def SortedFrom (es : List E) (i : Nat) : Prop := ∀ j, i ≤ j → (h : j + 1 < es.length) → leE es[j] es[j + 1]
theorem SortedFrom.all {es : List E} (h : SortedFrom es 0) : sortedB es = true := sortedB_iff.2 (fun j hj => h j (Nat.zero_le _) hj)
theorem SortedFrom.none {es : List E} {i : Nat} (h : i + 1 < es.length) (hn : ¬ leE es[i] es[i + 1]) : sortedB es = false := by
 cases hb : sortedB es with
 | false => rfl
 | true => exact absurd (sortedB_iff.1 hb i h) hn
theorem SortedFrom.down {es : List E} {i : Nat} (h : SortedFrom es (i + 1)) (hi : i + 1 < es.length) (hl : leE es[i] es[i + 1]) : SortedFrom es i := by
 intro j hj hjl
 by_cases e : j = i
 ·subst e; exact hl
 ·exact h j (by omega) hjl
theorem isf_calls (es : List E) (A : Option Addr) (c : Nat) (w : World) (hr : Kd.C k57 w A es.length es) (hc : es.length ≤ c) :
  Calls Try.prog 91 #[.slice A es.length c, .func (.func 92) #[] #[]] w fun e w' => e = .returned (.bool (sortedB es)) ∧ Below w.heap.size w w' := by
 have hlen := hr.2.1
 have HR := Aside0.mk hr
 have HL := Aside0.mk hlen
 clear hr hlen
 have HB := Aside0.mk (Below.refl w.heap.size w)
 go_enter Try.func91, Try.ntmps91
 go_wp2
 go_loopw [5] (fun v wr => ∃ i : Int, v = .int .i64 i ∧ Aside0 (-1 ≤ i ∧ i < es.length ∧ SortedFrom es i.toNat) ∧ Aside0 (Below w.heap.size w wr)) (fun v _ => (intOf v + 1).toNat)
 case atStart => exact ⟨(es.length : Int) - 1, by rw [wrap_id (by have := HL.out; omega) (by have := HL.out; omega)], ⟨by omega, by omega, fun j hj hjl => by omega⟩, HB⟩
 case round =>
  obtain ⟨i, rfl, HI, HB⟩ := hrel
  by_cases h0 : 0 < i
  ·obtain ⟨j, hij⟩ : ∃ j : Nat, i = (j : Int) + 1 := ⟨(i - 1).toNat, by omega⟩
   have hj := HI.out.2.1
   have hl := HL.out
   have hw : wrap64 (i - 1) = (j : Int) := by rw [wrap_id (by omega) (by omega)]; omega
   have p1 : 0 ≤ i := by omega
   have p2 : 0 ≤ wrap64 (i - 1) := by omega
   have q2 : wrap64 (i - 1) < (es.length : Int) := by omega
   obtain ⟨ad, e, hx0, hx1⟩ := at_T57 HR.out i p1 hj
   cases e
   obtain ⟨ad', e, hy0, hy1⟩ := at_T57 HR.out (wrap64 (i - 1)) p2 q2
   cases e
   replace hx0 := (HB.out.cell (World.block_lt_of_cell? w _ hx0)).trans hx0
   replace hx1 := (HB.out.cell (World.block_lt_of_cell? w _ hx1)).trans hx1
   replace hy0 := (HB.out.cell (World.block_lt_of_cell? w _ hy0)).trans hy0
   replace hy1 := (HB.out.cell (World.block_lt_of_cell? w _ hy1)).trans hy1
   have c0 : decide (0 < i) = true := decide_eq_true h0
   replace p1 := eq_true p1
   have q1 := eq_true hj
   replace p2 := eq_true p2
   replace q2 := eq_true q2
   have HW := Aside0.mk hw
   have HIJ := Aside0.mk hij
   clear hj hl hw hij h0
   go_wp2
   go_still_tail 10, (by kernel_rfl)
   simp only [i64_w]
   repeat still_step
   refine wpStill_nil ?_
   change wpList _ _ _ _ _ wr.drew
   have HB' := Aside0.mk (below_drew1 HB.out)
   clear HB hx0 hx1 hy0 hy1
   generalize wr.drew = w2 at HB' ⊢
   have HX := Aside0.mk (cmpE_eq (rd_T57 es i) (rd_T57 es (wrap64 (i - 1))))
   have HC := Aside0.mk (cmpE_lt (rd_T57 es i) (rd_T57 es (wrap64 (i - 1))))
   generalize cmpE (rd_T57 es i) (rd_T57 es (wrap64 (i - 1))) = z at HX HC
   have HE : Aside0 (∃ hj : j + 1 < es.length, rd_T57 es i = es[j + 1] ∧ rd_T57 es (wrap64 (i - 1)) = es[j]) := by
    have hj : j + 1 < es.length := by
     have := HI.out.2.1
     have := HIJ.out
     omega
    have e1 : i = ((j + 1 : Nat) : Int) := by have := HIJ.out; omega
    refine ⟨hj, ?_, ?_⟩
    ·rw [e1, rdE_get hj]
    ·rw [HW.out, rdE_get (by omega)]
   by_cases hz : z < 0
   ·have cz : decide (z < 0) = true := decide_eq_true hz
    have HZ := Aside0.mk hz
    clear hz
    go_wp2_with fail
    refine (impl_compareEdges.calls _ _ _ _ z _ HX.out).mono ?_
    rintro e w3 ⟨rfl, hb⟩
    go_wp2
    go_ret
    obtain ⟨hj, e1, e2⟩ := HE.out
    have hs := SortedFrom.none hj (by rw [← e1, ← e2]; exact HC.out.1 HZ.out)
    exact ⟨by rw [hs]; rfl, below_step HB'.out hb⟩
   ·have cz : decide (z < 0) = false := decide_eq_false hz
    have HZ := Aside0.mk hz
    clear hz
    go_wp2_with fail
    refine (impl_compareEdges.calls _ _ _ _ z _ HX.out).mono ?_
    rintro e w3 ⟨rfl, hb⟩
    have HB2 := Aside0.mk (below_step HB'.out hb)
    clear hb
    go_wp2
    go_roundw
    case rel =>
     have hi := HI.out
     have hw := HW.out
     have hij := HIJ.out
     refine ⟨wrap64 (i - 1), rfl, ⟨by omega, by omega, ?_⟩, HB2⟩
     obtain ⟨hj, e1, e2⟩ := HE.out
     have hle : leE es[j] es[j + 1] := by
      rw [← e1, ← e2]
      apply Classical.byContradiction
      intro hn
      have h1 := HC.out.2 hn
      have h2 := HZ.out
      omega
     rw [hw, Int.toNat_natCast]
     refine SortedFrom.down ?_ hj hle
     have := hi.2.2
     rw [hij, show ((j : Int) + 1).toNat = j + 1 by omega] at this
     exact this
    case measure =>
     have hi := HI.out
     have hw := HW.out
     have hij := HIJ.out
     simp [intOf]
     omega
  ·have c0 : decide (0 < i) = false := decide_eq_false h0
   have HZ := Aside0.mk h0
   clear h0
   go_wp2
   go_ret
   have := HI.out
   have h0 := HZ.out
   have hs : SortedFrom es i.toNat := this.2.2
   rw [show i.toNat = 0 by omega] at hs
   have ha := hs.all
   exact ⟨by rw [ha]; rfl, HB.out⟩
end Go.Proofs.Ytnbljcgdgblgoaa.Cf
end

section
namespace Go.Proofs.Ytnbljcgdgblgoaa.P
open Go.RowKit Go.Proofs.YtnbljcgdgblgoaaW.PrintWords Go.Proofs.YtnbljcgdgblgoaaW.PrintLast Go.Proofs.YtnbljcgdgblgoaaW.PrintMore
attribute [local go_sem] max2_int min2_int max_two min_two max_three min_three max_four min_four
set_option linter.unusedVariables false
set_option linter.unusedSimpArgs false
def impl_GraphOk.f (aD : Int) (aC : List (S57)) : Option Bool := some (Cf.gOk aD aC)
theorem impl_GraphOk.calls (aD : Int) (aH : Option Addr) (aG : Nat) (aC : List (S57)) (r : Bool) (w : World) (hr0_1 : Kd.C k57 w aH aC.length aC) (hc0_1 : aC.length ≤ aG) (h : impl_GraphOk.f aD aC = some r) :
  Calls Try.prog 50 #[.agg #[.int .i64 aD, .slice aH aC.length aG]] w fun e w' => e = .returned (.bool r) ∧ Below w.heap.size w w' := by
 obtain rfl := Option.some.inj h; clear h; obtain ⟨k1, hk1⟩ := (Cf.implEdges aD aC).rounds; have HR := zK_ hr0_1; have HK1 := zK_ hk1; clear hr0_1 hk1; go_enter Try.func50, Try.ntmps50; have HB := zK_ (below_alloc (Below.refl w.heap.size w) (.cells #[.int .i64 aD, .slice aH aC.length aG] 25)); have BK := zK_ (heap_alloc_new w (.cells #[.int .i64 aD, .slice aH aC.length aG] 25)); by_cases he : Cf.EsOk aD aC; rotate_left
 ·have HE := zK_ he; replace HK1 := zK_ (HK1.out.trans (congrArg some (decide_eq_false he))); clear he; (go_wp2_with fail); refine (impl_EdgesOk.calls k1 _ _ _ aC false _ (Kd.C_below HR.out HB.out) hc0_1 HK1.out).mono ?_; rintro e w1 ⟨rfl, hb⟩; have HB1 := zK_ (below_step HB.out hb); clear hb; go_wp2; go_ret
  have hg : Cf.gOk aD aC = false := by
   cases hb : Cf.gOk aD aC with
   | false => rfl
   | true => exact absurd (Cf.gOk_iff.1 hb).1 HE.out
  exact ⟨by rw [hg]; rfl, HB1.out⟩
 have HE := zK_ he; replace HK1 := zK_ (HK1.out.trans (congrArg some (decide_eq_true he))); clear he; (go_wp2_with fail); refine (impl_EdgesOk.calls k1 _ _ _ aC true _ (Kd.C_below HR.out HB.out) hc0_1 HK1.out).mono ?_; rintro e w1 ⟨rfl, hb⟩; have HB1 := zK_ (below_step HB.out hb); have oC := zK_ (blk_below BK.out hb); clear hb; have hz0 : w1.cell? ⟨w.heap.size, 0, none⟩ = some (.int .i64 aD) := (blk_cell oC.out 0).trans rfl; have hz1 : w1.cell? ⟨w.heap.size, 1, none⟩ = some (.slice aH aC.length aG) := (blk_cell oC.out 1).trans rfl; (go_wp2_with fail); have HS := zK_ (Cf.isf_calls aC aH aG w1 (Kd.C_below HR.out HB1.out) hc0_1); by_cases hs : Cf.Sorted aC; rotate_left
 ·have hsb : Cf.sortedB aC = false := by
   cases hb : Cf.sortedB aC with
   | false => rfl
   | true => exact absurd (Cf.sortedB_iff.1 hb) hs
  rw [hsb] at HS; have HSo := zK_ hs; clear hs hsb; refine HS.out.mono ?_; rintro e w2 ⟨rfl, hb⟩; have HB2 := zK_ (below_step HB1.out hb); clear hb hz0 hz1; go_wp2; go_ret
  have hg : Cf.gOk aD aC = false := by
   cases hb : Cf.gOk aD aC with
   | false => rfl
   | true => exact absurd (Cf.gOk_iff.1 hb).2.1 HSo.out
  exact ⟨by rw [hg]; rfl, HB2.out⟩
 have HSo := zK_ hs; rw [Cf.sortedB_iff.2 hs] at HS; clear hs; refine HS.out.mono ?_; rintro e w2 ⟨rfl, hb⟩; have HB2 := zK_ (below_step HB1.out hb); have BN := zK_ (blk_below oC.out hb); clear hb hz0 hz1; have hz0 : w2.cell? ⟨w.heap.size, 0, none⟩ = some (.int .i64 aD) := (blk_cell BN.out 0).trans rfl; have hz1 : w2.cell? ⟨w.heap.size, 1, none⟩ = some (.slice aH aC.length aG) := (blk_cell BN.out 1).trans rfl; (go_wp2_with fail); obtain ⟨h1, h6, hl, hes⟩ := HE.out; obtain ⟨n, rfl⟩ := Int.eq_ofNat_of_zero_le (a := aD) (by omega); obtain ⟨k2, hk2⟩ := (Cf.implConn n ⟨by omega, by omega⟩ aC (by omega) hes).rounds; refine (impl_connected.calls k2 _ _ _ aC (Cf.joinedB n aC) _ (Kd.C_below HR.out HB2.out) hc0_1 hk2).mono ?_; rintro e w3 ⟨rfl, hd⟩; have HB3 := zK_ (below_step HB2.out hd); clear hd hk2 h1 h6 hl hes
 have hg : Cf.gOk n aC = Cf.joinedB n aC := by
  rw [Bool.eq_iff_iff, Cf.gOk_iff, Cf.joinedB_iff]; exact ⟨fun h => h.2.2, fun h => ⟨HE.out, HSo.out, h⟩⟩
 have HG := zK_ hg; clear hg; generalize Cf.joinedB n aC = z at HG ⊢; cases z
 ·go_wp2; go_ret; exact ⟨by rw [HG.out]; rfl, HB3.out⟩
 ·go_wp2; go_ret; exact ⟨by rw [HG.out]; rfl, HB3.out⟩
def impl_allWithin.l0 : Nat → Int → Int → List Int → Int → Int → Option (Bool)
 | 0, _, _, _, _, _ => none
 | k + 1, x1, x2, x9, fE, eH => if eH < fE then (if 0 ≤ eH then (if eH < (x9.length : Int) then ((impl_within.f (rd x9 eH) x1 x2).bind fun bA => (if bA = true then (impl_allWithin.l0 k x1 x2 x9 fE (wrap64 (eH + 1))) else (some false))) else (none)) else (none)) else (some true)
def impl_allWithin.f (k : Nat) (l0 : List Int) (a1 : Int) (a2 : Int) : Option (Bool) := impl_allWithin.l0 k a1 a2 l0 (l0.length : Int) 0
theorem impl_allWithin.mono_l : ∀ k, (∀ y0 y1 y2 y3 y4, LeO (impl_allWithin.l0 k y0 y1 y2 y3 y4) (impl_allWithin.l0 (k + 1) y0 y1 y2 y3 y4))
 | 0 => fun _ _ _ _ _ r h => by simp [impl_allWithin.l0] at h
 | k + 1 => by
  have ih0 := impl_allWithin.mono_l k
  ·intro y0 y1 y2 y3 y4
   unfold impl_allWithin.l0
   exact zm0
theorem impl_allWithin.mono : ∀ a0 a1 a2 k, LeO (impl_allWithin.f k a0 a1 a2) (impl_allWithin.f (k + 1) a0 a1 a2) := by
 intro a0 a1 a2 k; have ih0 := impl_allWithin.mono_l k; unfold impl_allWithin.f; exact zm0
theorem impl_allWithin.calls (k : Nat) (A0 : Option Addr) (c0 : Nat) (l0 : List Int) (a1 : Int) (a2 : Int) (r : Bool) (w : World) (hr0 : Kd.C (Kd.int .i64) w A0 l0.length l0) (hc0 : l0.length ≤ c0) (h : impl_allWithin.f k l0 a1 a2 = some r) :
  Calls Try.prog 51 #[.slice A0 l0.length c0, .int .i64 a1, .int .i64 a2] w fun e w' => e = .returned (.bool r) ∧ Drawn0 w w' := by
 have HR0 := zK_ hr0; have HC0 := zK_ hc0; clear hr0 hc0; have H : (impl_allWithin.l0 k a1 a2 l0 (l0.length : Int) 0) = some r := h; clear h; have H' := zK_ H; clear H; go_enter Try.func51, Try.ntmps51; go_wp2; (go_loopg [11] k (fun kq v11 w' => ∃ (aI : Int), v11 = .int .i64 aI ∧ Aside0 (impl_allWithin.l0 kq a1 a2 l0 (l0.length : Int) aI = some r) ∧ Aside0 (kq ≤ k) ∧ Drawn0 w w')); case atStart => exact ⟨(0), zz5, H', ⟨Nat.le_refl _⟩, by repeat (first | exact Drawn0.refl _ | apply Drawn0.step)⟩
 case round =>
  clear H'; (try clear p2); obtain ⟨aI, rfl, HA, HK1, ⟨m1, rfl⟩⟩ := hrel
  cases gk with
  | zero => exact absurd HA.out (by simp [impl_allWithin.l0])
  | succ k1 =>
   have H := HA.out; clear HA; simp only [impl_allWithin.l0] at H; by_cases c4 : aI < (l0.length : Int); rotate_left
   ·rw [if_neg c4] at H; have cY := decide_eq_false c4; clear c4; obtain rfl := Option.some.inj H; go_wp2; go_ret; exact ⟨zz5, by repeat (first | exact Drawn0.refl _ | apply Drawn0.step)⟩
   rw [if_pos c4] at H; have cY := decide_eq_true c4; clear c4; by_cases c5 : 0 ≤ aI; rotate_left
   ·rw [if_neg c5] at H; exact absurd H (by simp)
   rw [if_pos c5] at H; have dF := decide_eq_true c5; clear c5; by_cases c6 : aI < (l0.length : Int); rotate_left
   ·rw [if_neg c6] at H; exact absurd H (by simp)
   rw [if_pos c6] at H; have eN := decide_eq_true c6; clear c6; obtain ⟨bA, A70, H⟩ := zO_ H; (try dsimp only at H); have A7 := zK_ A70; clear A70; by_cases c8 : bA = true; rotate_left
   ·replace c8 := Bool.eq_false_iff.mpr c8; subst c8; rw [if_neg (show ¬ (false = true) by decide)] at H; obtain rfl := Option.some.inj H; have p101 : 0 ≤ (aI : Int) := of_decide_eq_true zz3; have q101 : aI < (l0.length : Int) := of_decide_eq_true zz3; obtain ⟨cF, e101, a8⟩ := Kd.at_int HR0.out aI p101 q101; cases e101; replace p101 := eq_true p101; replace q101 := eq_true q101; (go_wp2_with (first | ((with_reducible refine gate_callee (f := 39) rfl ?_); refine goesL_ (some 18) rfl rfl Try.func39 (by kernel_rfl) rfl #[.int .i64 (rd l0 aI), .int .i64 a1, .int .i64 a2] rfl zz4 ?_; (with_reducible refine (impl_within.calls (rd l0 aI) a1 a2 false _ A7.out).mono ?_); rintro e w' ⟨rfl, ⟨nd, rfl⟩⟩; refine ⟨_, rfl, ?_⟩))); go_ret; exact ⟨zz5, by repeat (first | exact Drawn0.refl _ | apply Drawn0.step)⟩
   subst c8; rw [if_pos rfl] at H; have H' := zK_ H; clear H; have p101 : 0 ≤ (aI : Int) := of_decide_eq_true zz3; have q101 : aI < (l0.length : Int) := of_decide_eq_true zz3; obtain ⟨cF, e101, a8⟩ := Kd.at_int HR0.out aI p101 q101; cases e101; replace p101 := eq_true p101; replace q101 := eq_true q101; (go_wp2_with (first | ((with_reducible refine gate_callee (f := 39) rfl ?_); refine goesL_ (some 18) rfl rfl Try.func39 (by kernel_rfl) rfl #[.int .i64 (rd l0 aI), .int .i64 a1, .int .i64 a2] rfl zz4 ?_; (with_reducible refine (impl_within.calls (rd l0 aI) a1 a2 true _ A7.out).mono ?_); rintro e w' ⟨rfl, ⟨nd, rfl⟩⟩; refine ⟨_, rfl, ?_⟩))); go_roundg k1; (case measure => have := HK1.out; omega); case rel => exact ⟨(wrap64 (aI + 1)), zz5, H', ⟨zz34⟩, by repeat (first | exact Drawn0.refl _ | apply Drawn0.step)⟩
def impl_MatrixOk.l0 : Nat → List (List Int) → List (List Int) → Int → Int → Option (Bool)
 | 0, _, _, _, _ => none
 | k + 1, x0, x8, x9, fE => if fE < x9 then (if 0 ≤ fE then (if fE < (x8.length : Int) then (if ((rd_L3 x8 fE).length : Int) = (x0.length : Int) then ((impl_allWithin.f k (rd_L3 x8 fE) (-500) 500).bind fun bA => (if bA = true then (impl_MatrixOk.l0 k x0 x8 x9 (wrap64 (fE + 1))) else (some false))) else (some false)) else (none)) else (none)) else (some true)
def impl_MatrixOk.f (k : Nat) (l0 : List (List Int)) : Option (Bool) := if (l0.length : Int) > 6 then (some false) else (impl_MatrixOk.l0 k l0 l0 (l0.length : Int) 0)
theorem impl_MatrixOk.mono_l : ∀ k, (∀ y0 y1 y2 y3, LeO (impl_MatrixOk.l0 k y0 y1 y2 y3) (impl_MatrixOk.l0 (k + 1) y0 y1 y2 y3))
 | 0 => fun _ _ _ _ r h => by simp [impl_MatrixOk.l0] at h
 | k + 1 => by
  have ih0 := impl_MatrixOk.mono_l k
  ·intro y0 y1 y2 y3
   unfold impl_MatrixOk.l0
   exact zm11
theorem impl_MatrixOk.mono : ∀ a0 k, LeO (impl_MatrixOk.f k a0) (impl_MatrixOk.f (k + 1) a0) := by
 intro a0 k; have ih0 := impl_MatrixOk.mono_l k; unfold impl_MatrixOk.f; exact zm11
theorem impl_MatrixOk.calls (k : Nat) (A0 : Option Addr) (c0 : Nat) (l0 : List (List Int)) (r : Bool) (w : World) (hr0 : Kd.C (Kd.slice 3 (Kd.int .i64)) w A0 l0.length l0) (hc0 : l0.length ≤ c0) (h : impl_MatrixOk.f k l0 = some r) :
  Calls Try.prog 143 #[.slice A0 l0.length c0] w fun e w' => e = .returned (.bool r) ∧ Drawn0 w w' := by
 have HR0 := zK_ hr0; have HC0 := zK_ hc0; clear hr0 hc0; have H : (if (l0.length : Int) > 6 then (some false) else (impl_MatrixOk.l0 k l0 l0 (l0.length : Int) 0)) = some r := h; clear h; by_cases c2 : (l0.length : Int) > 6
 ·rw [if_pos c2] at H; have jT : decide (6 < (l0.length : Int)) = true := decide_eq_true c2; have lU : decide (6 < l0.length) = true := decide_eq_true (by omega); clear c2; obtain rfl := Option.some.inj H; go_enter Try.func143, Try.ntmps143; go_wp2; go_ret; exact ⟨zz5, by repeat (first | exact Drawn0.refl _ | apply Drawn0.step)⟩
 rw [if_neg c2] at H; have jT : decide (6 < (l0.length : Int)) = false := decide_eq_false c2; have lU : decide (6 < l0.length) = false := decide_eq_false (by omega); clear c2; have H' := zK_ H; clear H; go_enter Try.func143, Try.ntmps143; go_wp2; (go_loopg [10] k (fun kq v10 w' => ∃ (bX : Int), v10 = .int .i64 bX ∧ Aside0 (impl_MatrixOk.l0 kq l0 l0 (l0.length : Int) bX = some r) ∧ Aside0 (kq ≤ k) ∧ Drawn0 w w')); case atStart => exact ⟨(0), zz5, H', ⟨Nat.le_refl _⟩, by repeat (first | exact Drawn0.refl _ | apply Drawn0.step)⟩
 case round =>
  clear H'; (try clear c1); (try clear c2); (try clear jT); (try clear lU); (try clear p2); obtain ⟨bX, rfl, HA, HK1, ⟨m1, rfl⟩⟩ := hrel
  cases gk with
  | zero => exact absurd HA.out (by simp [impl_MatrixOk.l0])
  | succ k1 =>
   have H := HA.out; clear HA; simp only [impl_MatrixOk.l0] at H; by_cases c3 : bX < (l0.length : Int); rotate_left
   ·rw [if_neg c3] at H; have dB := decide_eq_false c3; (try (have fD := dB; first | rw [bJ] at fD | rw [← bJ] at fD)); clear c3; obtain rfl := Option.some.inj H; go_wp2; go_ret; exact ⟨zz5, by repeat (first | exact Drawn0.refl _ | apply Drawn0.step)⟩
   rw [if_pos c3] at H; have dB := decide_eq_true c3; clear c3; by_cases c4 : 0 ≤ bX; rotate_left
   ·rw [if_neg c4] at H; exact absurd H (by simp)
   rw [if_pos c4] at H; have cY := decide_eq_true c4; clear c4; by_cases c5 : bX < (l0.length : Int); rotate_left
   ·rw [if_neg c5] at H; exact absurd H (by simp)
   rw [if_pos c5] at H; have dF := decide_eq_true c5; clear c5; by_cases c6 : ((rd_L3 l0 bX).length : Int) = (l0.length : Int); rotate_left
   ·rw [if_neg c6] at H; have eN : (((rd_L3 l0 bX).length : Int) == (l0.length : Int)) = false := beq_eq_false_iff_ne.mpr c6; have kS : (((rd_L3 l0 bX).length : Int) != (l0.length : Int)) = true := bne_iff_ne.mpr c6; (have qO : ((rd_L3 l0 bX).length == l0.length) = false := by first | simpa using c6 | (simp at c6 ⊢; omega)); obtain rfl := Option.some.inj H; have p101 : 0 ≤ (bX : Int) := of_decide_eq_true zz3; have q101 : bX < (l0.length : Int) := of_decide_eq_true zz3; obtain ⟨cF, A101_0, c101_0, e101, a8, bJ, hi101_0⟩ := at_L3 HR0.out bX p101 q101; cases e101; have HR101_0 := zK_ hi101_0; have HC101_0 := zK_ bJ; clear hi101_0 bJ; replace p101 := eq_true p101; replace q101 := eq_true q101; go_wp2; go_ret; exact ⟨zz5, by repeat (first | exact Drawn0.refl _ | apply Drawn0.step)⟩
   rw [if_pos c6] at H; have eN : (((rd_L3 l0 bX).length : Int) == (l0.length : Int)) = true := beq_iff_eq.mpr c6; have kS : (((rd_L3 l0 bX).length : Int) != (l0.length : Int)) = false := bne_eq_false_iff_eq.mpr c6; (have qO : ((rd_L3 l0 bX).length == l0.length) = true := by first | simpa using c6 | (simp at c6 ⊢; omega)); clear c6; obtain ⟨bA, A70, H⟩ := zO_ H; (try dsimp only at H); have A7 := zK_ A70; clear A70; by_cases c8 : bA = true; rotate_left
   ·replace c8 := Bool.eq_false_iff.mpr c8; subst c8; rw [if_neg (show ¬ (false = true) by decide)] at H; obtain rfl := Option.some.inj H; have p101 : 0 ≤ (bX : Int) := of_decide_eq_true zz3; have q101 : bX < (l0.length : Int) := of_decide_eq_true zz3; obtain ⟨cF, A101_0, c101_0, e101, a8, bJ, hi101_0⟩ := at_L3 HR0.out bX p101 q101; cases e101; have HR101_0 := zK_ hi101_0; have HC101_0 := zK_ bJ; clear hi101_0 bJ; replace p101 := eq_true p101; replace q101 := eq_true q101; (go_wp2_with (first | (go_at_call 51; (with_reducible refine (impl_allWithin.calls k1 _ _ (rd_L3 l0 bX) (-500) 500 false _ ?side1 ?side2 A7.out).mono ?_); (case side1 => exact zz21); (case side2 => exact HC101_0.out); rintro e w' ⟨rfl, ⟨nd, rfl⟩⟩))); go_ret; exact ⟨zz5, by repeat (first | exact Drawn0.refl _ | apply Drawn0.step)⟩
   subst c8; rw [if_pos rfl] at H; have H' := zK_ H; clear H; have p101 : 0 ≤ (bX : Int) := of_decide_eq_true zz3; have q101 : bX < (l0.length : Int) := of_decide_eq_true zz3; obtain ⟨cF, A101_0, c101_0, e101, a8, bJ, hi101_0⟩ := at_L3 HR0.out bX p101 q101; cases e101; have HR101_0 := zK_ hi101_0; have HC101_0 := zK_ bJ; clear hi101_0 bJ; replace p101 := eq_true p101; replace q101 := eq_true q101; (go_wp2_with (first | (go_at_call 51; (with_reducible refine (impl_allWithin.calls k1 _ _ (rd_L3 l0 bX) (-500) 500 true _ ?side1 ?side2 A7.out).mono ?_); (case side1 => exact zz21); (case side2 => exact HC101_0.out); rintro e w' ⟨rfl, ⟨nd, rfl⟩⟩))); go_roundg k1; (case measure => have := HK1.out; omega); case rel => exact ⟨(wrap64 (bX + 1)), zz5, H', ⟨zz34⟩, by repeat (first | exact Drawn0.refl _ | apply Drawn0.step)⟩
mutual
def impl_determinant.l0 : Nat → List (List Int) → List Int → Int → Int → Int → List Int → Int → Int → Option (Int)
 | 0, _, _, _, _, _, _, _, _ => none
 | k + 1, x0, x1, x2, x7, x8, mT, q7, kO => if kO < q7 then (if 0 ≤ kO then (if kO < (mT.length : Int) then (if (Go.bits .and .i64 (shr .i64 x2 kO) 1) = 0 then (impl_determinant.l0 k x0 x1 x2 x7 x8 mT q7 (wrap64 (kO + 1))) else (if (rd mT kO) = 0 then (impl_determinant.l0 k x0 x1 x2 x7 (wrap64 (-x8)) mT q7 (wrap64 (kO + 1))) else (if 1 ≤ (x1.length : Int) then ((impl_determinant.f k x0 (x1.drop 1) (Go.bits .andNot .i64 x2 (shl .i64 1 kO))).bind fun eQ => (impl_determinant.l0 k x0 x1 x2 (wrap64 (x7 + (wrap64 ((wrap64 (x8 * (rd mT kO))) * eQ)))) (wrap64 (-x8)) mT q7 (wrap64 (kO + 1)))) else (none)))) else (none)) else (none)) else (some x7)
def impl_determinant.f : Nat → List (List Int) → List Int → Int → Option (Int)
 | 0, _, _, _ => none
 | k + 1, l0, l1, a2 => if (l1.length : Int) = 0 then (some 1) else (if 0 < (l1.length : Int) then (if 0 ≤ (rd l1 0) then (if (rd l1 0) < (l0.length : Int) then (impl_determinant.l0 k l0 l1 a2 0 1 (rd_L3 l0 (rd l1 0)) ((rd_L3 l0 (rd l1 0)).length : Int) 0) else (none)) else (none)) else (none))
end
theorem impl_determinant.mono_l : ∀ k, (∀ y0 y1 y2, LeO (impl_determinant.f k y0 y1 y2) (impl_determinant.f (k + 1) y0 y1 y2)) ∧ (∀ y0 y1 y2 y3 y4 y5 y6 y7, LeO (impl_determinant.l0 k y0 y1 y2 y3 y4 y5 y6 y7) (impl_determinant.l0 (k + 1) y0 y1 y2 y3 y4 y5 y6 y7))
 | 0 => ⟨fun _ _ _ r h => by simp [impl_determinant.f] at h, fun _ _ _ _ _ _ _ _ r h => by simp [impl_determinant.l0] at h⟩
 | k + 1 => by
  obtain ⟨ih0, ih1⟩ := impl_determinant.mono_l k
  refine ⟨?_, ?_⟩
  ·intro y0 y1 y2
   unfold impl_determinant.f
   exact zm1
  ·intro y0 y1 y2 y3 y4 y5 y6 y7
   unfold impl_determinant.l0
   exact zm1
theorem impl_determinant.mono : ∀ a0 a1 a2 k, LeO (impl_determinant.f k a0 a1 a2) (impl_determinant.f (k + 1) a0 a1 a2) := by
 intro a0 a1 a2 k; obtain ⟨ih0, ih1⟩ := impl_determinant.mono_l k; exact ih0 a0 a1 a2
def impl_determinant.T9 : Bool × List (List Nat × List Nat) := (true, [([], []), ([], []), ([], []), ([1, 2], [1, 2]), ([], []), ([], []), ([5], [5]), ([], []), ([], []), ([8], [8]), ([7, 9], [7, 9]), ([4, 6, 10], [4, 6, 10]), ([3, 11], [3, 11]), ([0, 12], [0, 12]), ([13, 11, 0, 1, 2, 3, 4, 5, 6, 7, 8, 9, 10, 11, 12, 13], [0, 13])])
def impl_determinant.B9 : List Nat := [0, 0, 0, 6, 0, 0, 32, 0, 0, 256, 896, 2032, 4094, 8191, 16383]
theorem impl_determinant.tab9 : rtab .any (opsOf Try.f144 9) = impl_determinant.T9 := by kernel_rfl
theorem impl_determinant.bits9 : waitsOk impl_determinant.T9.2 impl_determinant.B9 = true := by kernel_rfl
theorem impl_determinant.calls (k : Nat) : ∀ (A0 : Option Addr) (c0 : Nat) (l0 : List (List Int)) (A1 : Option Addr) (c1 : Nat) (l1 : List Int) (a2 : Int) (r : Int) (w : World) (hr0 : Kd.C (Kd.slice 3 (Kd.int .i64)) w A0 l0.length l0) (hc0 : l0.length ≤ c0) (hr1 : Kd.C (Kd.int .i64) w A1 l1.length l1) (hc1 : l1.length ≤ c1) (h : impl_determinant.f k l0 l1 a2 = some r),
  Calls Try.prog 144 #[.slice A0 l0.length c0, .slice A1 l1.length c1, .int .i64 a2] w fun e w' => e = .returned (.int .i64 r) ∧ Below w.heap.size w w' := by
 induction k using Nat.strongRecOn with
 | _ k ih =>
 intro A0 c0 l0 A1 c1 l1 a2 r w hr0 hc0 hr1 hc1 h
 cases k with
 | zero => exact absurd h (by simp [impl_determinant.f])
 | succ k =>
 simp only [impl_determinant.f] at h; have HR0 := zK_ hr0; have HC0 := zK_ hc0; clear hr0 hc0; have HR1 := zK_ hr1; have HC1 := zK_ hc1; clear hr1 hc1; have HB := zK_ (Below.refl w.heap.size w); have H : (if (l1.length : Int) = 0 then (some 1) else (if 0 < (l1.length : Int) then (if 0 ≤ (rd l1 0) then (if (rd l1 0) < (l0.length : Int) then (impl_determinant.l0 k l0 l1 a2 0 1 (rd_L3 l0 (rd l1 0)) ((rd_L3 l0 (rd l1 0)).length : Int) 0) else (none)) else (none)) else (none))) = some r := h; clear h; by_cases c4 : (l1.length : Int) = 0
 ·rw [if_pos c4] at H; have cY : ((l1.length : Int) == 0) = true := beq_iff_eq.mpr c4; have jS : ((l1.length : Int) != 0) = false := bne_eq_false_iff_eq.mpr c4; clear c4; obtain rfl := Option.some.inj H; go_enter Try.func144, Try.ntmps144; go_wp2; go_ret; exact ⟨zz7, zz1⟩
 rw [if_neg c4] at H; have cY : ((l1.length : Int) == 0) = false := beq_eq_false_iff_ne.mpr c4; have jS : ((l1.length : Int) != 0) = true := bne_iff_ne.mpr c4; (have rJ : ¬ (l1 = []) := fun h_ => c4 (by rw [h_]; rfl)); by_cases c5 : 0 < (l1.length : Int); rotate_left
 ·rw [if_neg c5] at H; exact absurd H (by simp)
 rw [if_pos c5] at H; have dF := decide_eq_true c5; have kJ : decide (0 < l1.length) = true := decide_eq_true (by omega); clear c5; by_cases c6 : 0 ≤ (rd l1 0); rotate_left
 ·rw [if_neg c6] at H; exact absurd H (by simp)
 rw [if_pos c6] at H; have eN := decide_eq_true c6; clear c6; by_cases c7 : (rd l1 0) < (l0.length : Int); rotate_left
 ·rw [if_neg c7] at H; exact absurd H (by simp)
 rw [if_pos c7] at H; have dL := decide_eq_true c7; clear c7; have H' := zK_ H; clear H; have p101 : 0 ≤ (0 : Int) := (by omega); have q101 : 0 < (l1.length : Int) := of_decide_eq_true zz3; obtain ⟨cF, e101, a8⟩ := Kd.at_int HR1.out 0 p101 q101; cases e101; have qi101 : (0 < l1.length) = True := eq_true (by omega); (try rw [show ((0 : Int)).toNat = 0 from rfl] at a8); (try rw [Addr.add_zero'] at a8); replace p101 := eq_true p101; replace q101 := eq_true q101; have p102 : 0 ≤ ((rd l1 0) : Int) := of_decide_eq_true zz3; have q102 : (rd l1 0) < (l0.length : Int) := of_decide_eq_true zz3; obtain ⟨cO, A102_0, c102_0, e102, a7, dQ, hi102_0⟩ := at_L3 HR0.out (rd l1 0) p102 q102; cases e102; have HR102_0 := zK_ hi102_0; have HC102_0 := zK_ dQ; clear hi102_0 dQ; replace p102 := eq_true p102; replace q102 := eq_true q102; go_enter Try.func144, Try.ntmps144; go_wp2; (go_loopg [7, 8, 21] k (fun kq v7 v8 v21 w' => ∃ (b8 : Int) (bK : Int) (b3 : Int), v7 = .int .i64 b8 ∧ v8 = .int .i64 bK ∧ v21 = .int .i64 b3 ∧ Aside0 (impl_determinant.l0 kq l0 l1 a2 b8 bK (rd_L3 l0 (rd l1 0)) ((rd_L3 l0 (rd l1 0)).length : Int) b3 = some r) ∧ Aside0 (kq ≤ k) ∧ Aside0 (Below w.heap.size w w'))); case atStart => exact ⟨(0), (1), (0), zz5, zz5, zz5, H', ⟨Nat.le_refl _⟩, ⟨zz1⟩⟩
 case round =>
  clear H'; (try clear c1); (try clear p1); (try clear q1); (try clear hx1); (try clear qi1); (try clear p2); (try clear c4); (try clear cY); (try clear jS); (try clear rJ); (try clear c5); (try clear dF); (try clear kJ); (try clear c6); (try clear eN); (try clear c7); (try clear dL); (try clear a8); (try clear a7); (try clear p101); (try clear p102); (try clear q101); (try clear q102); obtain ⟨b8, bK, b3, rfl, rfl, rfl, HA, HK1, HB⟩ := hrel
  cases gk with
  | zero => exact absurd HA.out (by simp [impl_determinant.l0])
  | succ k1 =>
   have H := HA.out; clear HA; simp only [impl_determinant.l0] at H; by_cases c8 : b3 < ((rd_L3 l0 (rd l1 0)).length : Int); rotate_left
   ·rw [if_neg c8] at H; have fL := decide_eq_false c8; (try (have gW := fL; first | rw [dQ] at gW | rw [← dQ] at gW)); clear c8; obtain rfl := Option.some.inj H; go_wp2; go_ret; exact ⟨zz7, zz1⟩
   rw [if_pos c8] at H; have fL := decide_eq_true c8; (try (have gW := fL; first | rw [dQ] at gW | rw [← dQ] at gW)); clear c8; by_cases c9 : 0 ≤ b3; rotate_left
   ·rw [if_neg c9] at H; exact absurd H (by simp)
   rw [if_pos c9] at H; have fJ := decide_eq_true c9; clear c9; by_cases c10 : b3 < ((rd_L3 l0 (rd l1 0)).length : Int); rotate_left
   ·rw [if_neg c10] at H; exact absurd H (by simp)
   rw [if_pos c10] at H; have gN := decide_eq_true c10; (try (have kL := gN; first | rw [dQ] at kL | rw [← dQ] at kL)); clear c10; have jY := eq_true (of_decide_eq_true zz3 : 0 ≤ b3); obtain ⟨bO, iU⟩ : ∃ j_ : Int, (shr .i64 a2 b3) = j_ := ⟨_, rfl⟩; (replace H : (if (Go.bits .and .i64 (bO) 1) = 0 then (impl_determinant.l0 k1 l0 l1 a2 b8 bK (rd_L3 l0 (rd l1 0)) ((rd_L3 l0 (rd l1 0)).length : Int) (wrap64 (b3 + 1))) else (if (rd (rd_L3 l0 (rd l1 0)) b3) = 0 then (impl_determinant.l0 k1 l0 l1 a2 b8 (wrap64 (-bK)) (rd_L3 l0 (rd l1 0)) ((rd_L3 l0 (rd l1 0)).length : Int) (wrap64 (b3 + 1))) else (if 1 ≤ (l1.length : Int) then ((impl_determinant.f k1 l0 (l1.drop 1) (Go.bits .andNot .i64 a2 (shl .i64 1 b3))).bind fun eQ => (impl_determinant.l0 k1 l0 l1 a2 (wrap64 (b8 + (wrap64 ((wrap64 (bK * (rd (rd_L3 l0 (rd l1 0)) b3))) * eQ)))) (wrap64 (-bK)) (rd_L3 l0 (rd l1 0)) ((rd_L3 l0 (rd l1 0)).length : Int) (wrap64 (b3 + 1)))) else (none)))) = some r := by first | (rw [iU] at H; exact H) | (simp only [iU] at H ⊢; exact H)); have xP : (a2 / 2 ^ min b3.toNat 64) = bO := iU; have xN : b3 ≤ 64 → (a2 / 2 ^ b3.toNat) = bO := shr_small iU; by_cases c13 : (Go.bits .and .i64 (bO) 1) = 0
   ·rw [if_pos c13] at H; have iW : ((Go.bits .and .i64 (bO) 1) == 0) = true := beq_iff_eq.mpr c13; have pI : ((Go.bits .and .i64 (bO) 1) != 0) = false := bne_eq_false_iff_eq.mpr c13; clear c13; have H' := zK_ H; clear H; have p103 : 0 ≤ (b3 : Int) := of_decide_eq_true zz3; have q103 : b3 < ((rd_L3 l0 (rd l1 0)).length : Int) := of_decide_eq_true zz3; obtain ⟨bD, e103, aQ⟩ := Kd.at_int HR102_0.out b3 p103 q103; cases e103; replace aQ := (HB.out.cell (World.block_lt_of_cell? w _ aQ)).trans aQ; replace p103 := eq_true p103; replace q103 := eq_true q103; go_wp2; go_roundg k1; (case measure => have := HK1.out; omega); case rel => exact ⟨(b8), (bK), (wrap64 (b3 + 1)), zz5, zz5, zz5, H', ⟨zz34⟩, ⟨zz1⟩⟩
   rw [if_neg c13] at H; have iW : ((Go.bits .and .i64 (bO) 1) == 0) = false := beq_eq_false_iff_ne.mpr c13; have pI : ((Go.bits .and .i64 (bO) 1) != 0) = true := bne_iff_ne.mpr c13; by_cases c14 : (rd (rd_L3 l0 (rd l1 0)) b3) = 0
   ·rw [if_pos c14] at H; have gE : ((rd (rd_L3 l0 (rd l1 0)) b3) == 0) = true := beq_iff_eq.mpr c14; have pH : ((rd (rd_L3 l0 (rd l1 0)) b3) != 0) = false := bne_eq_false_iff_eq.mpr c14; clear c14; have H' := zK_ H; clear H; have p103 : 0 ≤ (b3 : Int) := of_decide_eq_true zz3; have q103 : b3 < ((rd_L3 l0 (rd l1 0)).length : Int) := of_decide_eq_true zz3; obtain ⟨bD, e103, aQ⟩ := Kd.at_int HR102_0.out b3 p103 q103; cases e103; replace aQ := (HB.out.cell (World.block_lt_of_cell? w _ aQ)).trans aQ; replace p103 := eq_true p103; replace q103 := eq_true q103; go_wp2; go_roundg k1; (case measure => have := HK1.out; omega); case rel => exact ⟨(b8), (wrap64 (-bK)), (wrap64 (b3 + 1)), zz5, zz5, zz5, H', ⟨zz34⟩, ⟨zz1⟩⟩
   rw [if_neg c14] at H; have gE : ((rd (rd_L3 l0 (rd l1 0)) b3) == 0) = false := beq_eq_false_iff_ne.mpr c14; have pH : ((rd (rd_L3 l0 (rd l1 0)) b3) != 0) = true := bne_iff_ne.mpr c14; by_cases c15 : 1 ≤ (l1.length : Int); rotate_left
   ·rw [if_neg c15] at H; exact absurd H (by simp)
   rw [if_pos c15] at H; have iF := eq_true c15; have pG : decide (1 ≤ (l1.length : Int)) = true := decide_eq_true c15; clear c15; have iE := eq_true (of_decide_eq_true zz3 : 0 ≤ b3); obtain ⟨dA, fI⟩ : ∃ j_ : Int, (shl .i64 1 b3) = j_ := ⟨_, rfl⟩; (replace H : ((impl_determinant.f k1 l0 (l1.drop 1) (Go.bits .andNot .i64 a2 (dA))).bind fun eQ => (impl_determinant.l0 k1 l0 l1 a2 (wrap64 (b8 + (wrap64 ((wrap64 (bK * (rd (rd_L3 l0 (rd l1 0)) b3))) * eQ)))) (wrap64 (-bK)) (rd_L3 l0 (rd l1 0)) ((rd_L3 l0 (rd l1 0)).length : Int) (wrap64 (b3 + 1)))) = some r := by first | (rw [fI] at H; exact H) | (simp only [fI] at H ⊢; exact H)); have lD : (IntKind.i64.wrap (1 * 2 ^ min b3.toNat 64)) = dA := fI; have mX : b3 ≤ 64 → (IntKind.i64.wrap (1 * 2 ^ b3.toNat)) = dA := shl_small fI; (have xI : (IntKind.i64.wrap (2 ^ min b3.toNat 64)) = dA := by have h_ := lD; rw [Int.one_mul] at h_; exact h_); (have xH : b3 ≤ 64 → (IntKind.i64.wrap (2 ^ b3.toNat)) = dA := fun hle_ => by have h_ := mX hle_; rw [Int.one_mul] at h_; exact h_); have xE : (wrap64 (1 * 2 ^ min b3.toNat 64)) = dA := (i64_w _).symm.trans lD; (have xF : b3 ≤ 64 → (wrap64 (1 * 2 ^ b3.toNat)) = dA := fun h_ => (i64_w _).symm.trans (mX h_)); obtain ⟨eQ, A180, H⟩ := zO_ H; (try dsimp only at H); have A18 := zK_ A180; clear A180; have H' := zK_ H; clear H; have p103 : 0 ≤ (b3 : Int) := of_decide_eq_true zz3; have q103 : b3 < ((rd_L3 l0 (rd l1 0)).length : Int) := of_decide_eq_true zz3; obtain ⟨bD, e103, aQ⟩ := Kd.at_int HR102_0.out b3 p103 q103; cases e103; replace aQ := (HB.out.cell (World.block_lt_of_cell? w _ aQ)).trans aQ; replace p103 := eq_true p103; replace q103 := eq_true q103; (try go_wp2); replace HB := zK_ (below_drew1 HB.out); obtain ⟨i020, hi020, _, hsz20, _⟩ := info_parts info3; obtain ⟨A20, hcut20, hA20, hC20⟩ := print_drop_of (P := Try.prog) (Value.int .i64) 0 26 3 .i64 Try.underlying26 hi020 hsz20 (some cF) c1 l1 1 (by omega) (of_decide_eq_true zz3) HC1.out; have HR104 := zK_ (Kd.C_of_reads (h1 := fun _ => rfl) (hA20 _ (Kd.reads_of_C HR1.out))); have HC104 := zK_ hC20; clear hA20 hC20 hi020 hsz20; refine start_ (n := 15) (S := fun w' => True) (ds := []) (zM 15 0) (by kernel_rfl) rfl rfl trivial (fun hHeld => ?_); refine with_tabW impl_determinant.tab9 impl_determinant.bits9 (fun HT_ HW_ => ?_); generalize wr.drew = w19 at HB HR104 hHeld ⊢; refine zQ 0 33 (zM 15 1) ?_
   refine zQ 1 34 (zM 15 3) ?_
   refine zQ 2 35 (zM 15 7) ?_
   refine zQ 3 36 (zM 15 15) ?_
   refine zQ 4 37 (zM 15 31) ?_
   refine zQ 5 38 (zM 15 63) ?_
   refine zQ 6 39 (zM 15 127) ?_
   refine zQ 7 40 (zM 15 255) ?_
   refine zQ 8 41 (zM 15 511) ?_
   refine zQ 9 42 (zM 15 1023) ?_
   refine zQ 10 43 (zM 15 2047) ?_
   refine one_ (i := 11) (N := some 44) (zM 15 4095) rfl rfl (one_of HT_.out (by kernel_rfl)) (by decide) (fun K hK => ?_); refine goes_ Try.func144 (by kernel_rfl) rfl #[.slice (some cO) l0.length c0, .slice A20 (l1.drop 1).length (c1 - 1), .int .i64 (Go.bits .andNot .i64 a2 (dA))] (by rfl) rfl rfl (by (try simp only [List.map_toArray, List.map_cons, List.map_nil]); first | done | (rw [show (l1.drop 1).length = (l1.length - 1) from List.length_drop] <;> rfl) | (simp only [fI]; rfl) | rfl | (simp only [List.length_drop, List.length_take]; rfl)) ?_; (with_reducible refine (ih k1 (by have := HK1.out; omega) _ _ l0 _ _ (l1.drop 1) (Go.bits .andNot .i64 a2 (dA)) eQ _ ?side1 ?side2 ?side3 ?side4 A18.out).mono ?_); (case side1 => exact zz45); (case side2 => exact HC0.out); (case side3 => repeat (first | exact (Kd.C_below HR104.out HB.out) | (with_reducible refine Kd.C_alloc ?_ _) | (with_reducible refine Kd.C_drewN ?_ _) | (with_reducible refine Kd.C_drew ?_))); (case side4 => exact HC104.out); rintro e w21 ⟨rfl, hb⟩; refine ⟨_, rfl, ?_⟩; replace HB := zK_ (below_step zz1 hb); clear hb; refine hK.out _ _ trivial (fun hHeld => ?_); clear hK K; refine norm_ (a' := ?_) ?_ ?_; rotate_left
   ·show Act.put _ (some 44) _ = _; exact zzS
   refine zQ 12 45 (zM 15 8191) ?_
   refine zQ 13 46 (zM 15 16383) ?_
   refine zQ 14 7 (zM 15 32767) ?_
   refine done_ (done_of HT_.out (by kernel_rfl)) ?_; (try go_wp2); go_roundg k1; (case measure => have := HK1.out; omega); case rel => exact ⟨(wrap64 (b8 + (wrap64 ((wrap64 (bK * (rd (rd_L3 l0 (rd l1 0)) b3))) * eQ)))), (wrap64 (-bK)), (wrap64 (b3 + 1)), zz5, zz5, zz5, H', ⟨zz34⟩, ⟨zz1⟩⟩
end Go.Proofs.Ytnbljcgdgblgoaa.P
end

section
namespace Go.Proofs.Ytnbljcgdgblgoaa.P
open Go.RowKit Go.Proofs.YtnbljcgdgblgoaaW.PrintWords Go.Proofs.YtnbljcgdgblgoaaW.PrintLast Go.Proofs.YtnbljcgdgblgoaaW.PrintMore
attribute [local go_sem] max2_int min2_int max_two min_two max_three min_three max_four min_four
set_option linter.unusedVariables false
set_option linter.unusedSimpArgs false
def impl_bitsOf.l0 : Nat → Int → List Int → Int → Option (List Int)
 | 0, _, _, _ => none
 | k + 1, x0, x3, x4 => if 0 ≤ x4 then (if (shr .i64 x0 x4) > 0 then (if (Go.bits .and .i64 (shr .i64 x0 x4) 1) = 1 then (if x3.length < 17592186044416 then (impl_bitsOf.l0 k x0 (x3 ++ [x4]) (wrap64 (x4 + 1))) else (none)) else (impl_bitsOf.l0 k x0 x3 (wrap64 (x4 + 1)))) else (some x3)) else (none)
def impl_bitsOf.f (k : Nat) (a0 : Int) : Option (List Int) := impl_bitsOf.l0 k a0 ([] : List Int) 0
theorem impl_bitsOf.mono_l : ∀ k, (∀ y0 y1 y2, LeO (impl_bitsOf.l0 k y0 y1 y2) (impl_bitsOf.l0 (k + 1) y0 y1 y2))
 | 0 => fun _ _ _ r h => by simp [impl_bitsOf.l0] at h
 | k + 1 => by
  have ih0 := impl_bitsOf.mono_l k
  ·intro y0 y1 y2
   unfold impl_bitsOf.l0
   exact zm0
theorem impl_bitsOf.mono : ∀ a0 k, LeO (impl_bitsOf.f k a0) (impl_bitsOf.f (k + 1) a0) := by
 intro a0 k; have ih0 := impl_bitsOf.mono_l k; unfold impl_bitsOf.f; exact zm0
theorem impl_bitsOf.calls (k : Nat) (a0 : Int) (r : List Int) (w : World) (h : impl_bitsOf.f k a0 = some r) :
  Calls Try.prog 145 #[.int .i64 a0] w fun e w' => ∃ v0_ : Value, e = .returned (v0_) ∧ Kd.R (Kd.int .i64) 3 w' w.heap.size (fun _ => True) v0_ r ∧ Below w.heap.size w w' := by
 have HB := zK_ (Below.refl w.heap.size w); have H : (impl_bitsOf.l0 k a0 ([] : List Int) 0) = some r := h; clear h; have H' := zK_ H; clear H; go_enter Try.func145, Try.ntmps145; go_wp2; (go_loopg [3, 4] k (fun kq v3 v4 w' => ∃ (bT : List Int) (aX : Int), v4 = .int .i64 aX ∧ Aside0 (impl_bitsOf.l0 kq a0 bT aX = some r) ∧ Aside0 (kq ≤ k) ∧ Aside0 (Kd.R (Kd.int .i64) 3 w' w.heap.size (fun _ => True) v3 bT) ∧ Aside0 (Below w.heap.size w w'))); case atStart => exact ⟨(([] : List Int)), (0), zz5, H', ⟨Nat.le_refl _⟩, ⟨zz42⟩, ⟨zz1⟩⟩
 case round =>
  clear H'; (try clear c1); obtain ⟨bT, aX, rfl, HA, HK1, bC, HB⟩ := hrel
  cases gk with
  | zero => exact absurd HA.out (by simp [impl_bitsOf.l0])
  | succ k1 =>
   have H := HA.out; clear HA; simp only [impl_bitsOf.l0] at H; by_cases c2 : 0 ≤ aX; rotate_left
   ·rw [if_neg c2] at H; exact absurd H (by simp)
   rw [if_pos c2] at H; have jT := eq_true c2; have lU : decide (0 ≤ aX) = true := decide_eq_true c2; clear c2; obtain ⟨oD, oN⟩ : ∃ j_ : Int, (shr .i64 a0 aX) = j_ := ⟨_, rfl⟩; (replace H : (if (oD) > 0 then (if (Go.bits .and .i64 (oD) 1) = 1 then (if bT.length < 17592186044416 then (impl_bitsOf.l0 k1 a0 (bT ++ [aX]) (wrap64 (aX + 1))) else (none)) else (impl_bitsOf.l0 k1 a0 bT (wrap64 (aX + 1)))) else (some bT)) = some r := by first | (rw [oN] at H; exact H) | (simp only [oN] at H ⊢; exact H)); have AZ : (a0 / 2 ^ min aX.toNat 64) = oD := oN; have AY : aX ≤ 64 → (a0 / 2 ^ aX.toNat) = oD := shr_small oN; by_cases c4 : (oD) > 0; rotate_left
   ·rw [if_neg c4] at H; have cY : decide (0 < (oD)) = false := decide_eq_false c4; clear c4; obtain rfl := Option.some.inj H; go_wp2; go_ret; exact ⟨_, by first | rfl | (simp [errW_none, errW_some] <;> rfl) | (simp only [← oN]; first | rfl | (simp [errW_none, errW_some] <;> rfl)) | (simp [*, errW_none, errW_some] <;> rfl), zz19, zz1⟩
   rw [if_pos c4] at H; have cY : decide (0 < (oD)) = true := decide_eq_true c4; clear c4; have dF := eq_true (of_decide_eq_true zz3 : 0 ≤ aX); by_cases c7 : (Go.bits .and .i64 (oD) 1) = 1; rotate_left
   ·rw [if_neg c7] at H; have dL : ((Go.bits .and .i64 (oD) 1) == 1) = false := beq_eq_false_iff_ne.mpr c7; have kR : ((Go.bits .and .i64 (oD) 1) != 1) = true := bne_iff_ne.mpr c7; have H' := zK_ H; clear H; go_wp2; go_roundg k1; (case measure => have := HK1.out; omega); case rel => exact ⟨(bT), (wrap64 (aX + 1)), zz5, H', ⟨zz34⟩, ⟨zz19⟩, ⟨zz1⟩⟩
   rw [if_pos c7] at H; have dL : ((Go.bits .and .i64 (oD) 1) == 1) = true := beq_iff_eq.mpr c7; have kR : ((Go.bits .and .i64 (oD) 1) != 1) = false := bne_eq_false_iff_eq.mpr c7; clear c7; by_cases c8 : bT.length < 17592186044416; rotate_left
   ·rw [if_neg c8] at H; exact absurd H (by simp)
   rw [if_pos c8] at H; have yJ := zK_ c8; clear c8; obtain ⟨fA, hy_⟩ : ∃ y_ : List Int, y_ = (bT ++ [aX]) := ⟨_, rfl⟩; (replace H : (impl_bitsOf.l0 k1 a0 fA (wrap64 (aX + 1))) = some r := zzY); have gF := zK_ hy_; clear hy_; have H' := zK_ H; clear H; (go_wp2_with (first | ((with_reducible refine gate_builtin (b := .append) (xs := #[.tmp 16, .tmp 18]) rfl ?_); at_builtin; refine Kd.R_append (Kd.int .i64) (w0 := w) w.heap.size rfl (.tmp 16) (.tmp 18) 26 3 (.int .i64 0) 8 rfl Try.underlying26 info3 rfl (by decide) (by omega) u3 bT aX [.int .i64 aX] (fun _ => True) (fun _ => False) rfl rfl ?aP (fun _ hk => hk.elim) ?aF ?aO ?aB ?aS ?aL ?_; (case aP => exact rfl); (case aB => exact zz1); (case aF => exact (fun _ _ => trivial)); (case aO => exact zz19); (case aS => exact (below_size zz1)); (case aL => have := yJ.out; omega); intro v102 w9 ho hb hg hat; rw [← gF.out] at ho; have n_ := zA2 hb ho; clear HB bC; obtain ⟨HB, jR⟩ := n_; clear ho hb hg hat))); go_roundg k1; (case measure => have := HK1.out; omega); case rel => exact ⟨(fA), (wrap64 (aX + 1)), zz5, H', ⟨zz34⟩, ⟨zz40⟩, ⟨zz1⟩⟩
def impl_Determinant.f (k : Nat) (l0 : List (List Int)) : Option (Int) := (impl_MatrixOk.f k l0).bind fun cZ => (if cZ = true then ((impl_bitsOf.f k (wrap64 ((shl .i64 1 (l0.length : Int)) - 1))).bind fun bA => ((impl_determinant.f k l0 bA (wrap64 ((shl .i64 1 (l0.length : Int)) - 1))).bind fun eQ => (some eQ))) else (some 0))
theorem impl_Determinant.mono : ∀ a0 k, LeO (impl_Determinant.f k a0) (impl_Determinant.f (k + 1) a0) := by
 intro a0 k; unfold impl_Determinant.f; repeat' first | (with_reducible apply impl_MatrixOk.mono) | (with_reducible apply impl_bitsOf.mono) | (with_reducible apply impl_determinant.mono) | (with_reducible exact LeO.refl _) | (with_reducible exact LeO.none _) | (with_reducible refine LeO.ite ?_ ?_) | (with_reducible refine LeO.bind ?_ (fun _ => ?_)) | apply impl_MatrixOk.mono | apply impl_bitsOf.mono | apply impl_determinant.mono | exact LeO.none _ | refine LeO.ite ?_ ?_ | refine LeO.bind ?_ (fun _ => ?_)
def impl_Determinant.T3 : Bool × List (List Nat × List Nat) := (true, [([], []), ([], []), ([1], [1]), ([2], [2]), ([3], [3]), ([4], [4]), ([], []), ([6], [6]), ([7], [7]), ([8], [8]), ([0, 5, 9, 5], [0, 5, 9]), ([10, 10, 0, 1, 2, 3, 4, 5, 6, 7, 8, 9, 10], [10])])
def impl_Determinant.B3 : List Nat := [0, 0, 2, 6, 14, 30, 0, 64, 192, 448, 1023, 2047]
theorem impl_Determinant.tab3 : rtab .any (opsOf Try.f120 3) = impl_Determinant.T3 := by kernel_rfl
theorem impl_Determinant.bits3 : waitsOk impl_Determinant.T3.2 impl_Determinant.B3 = true := by kernel_rfl
theorem impl_Determinant.calls (k : Nat) (A0 : Option Addr) (c0 : Nat) (l0 : List (List Int)) (r : Int) (w : World) (hr0 : Kd.C (Kd.slice 3 (Kd.int .i64)) w A0 l0.length l0) (hc0 : l0.length ≤ c0) (h : impl_Determinant.f k l0 = some r) :
  Calls Try.prog 120 #[.slice A0 l0.length c0] w fun e w' => e = .returned (.int .i64 r) ∧ Below w.heap.size w w' := by
 have HR0 := zK_ hr0; have HC0 := zK_ hc0; clear hr0 hc0; have HB := zK_ (Below.refl w.heap.size w); have H : ((impl_MatrixOk.f k l0).bind fun cZ => (if cZ = true then ((impl_bitsOf.f k (wrap64 ((shl .i64 1 (l0.length : Int)) - 1))).bind fun bA => ((impl_determinant.f k l0 bA (wrap64 ((shl .i64 1 (l0.length : Int)) - 1))).bind fun eQ => (some eQ))) else (some 0))) = some r := h; clear h; obtain ⟨cZ, A20, H⟩ := zO_ H; (try dsimp only at H); have A2 := zK_ A20; clear A20; by_cases c3 : cZ = true; rotate_left
 ·replace c3 := Bool.eq_false_iff.mpr c3; subst c3; rw [if_neg (show ¬ (false = true) by decide)] at H; obtain rfl := Option.some.inj H; go_enter Try.func120, Try.ntmps120; (go_wp2_with (first | ((with_reducible refine gate_callee (f := 143) rfl ?_); refine goesL_ (some 4) rfl rfl Try.func143 (by kernel_rfl) rfl #[.slice A0 l0.length c0] rfl zz4 ?_; (with_reducible refine (impl_MatrixOk.calls k _ _ l0 false _ ?side1 ?side2 A2.out).mono ?_); (case side1 => exact zz26); (case side2 => exact HC0.out); rintro e w' ⟨rfl, ⟨nd, rfl⟩⟩; refine ⟨_, rfl, ?_⟩))); go_ret; exact ⟨zz7, zz1⟩
 subst c3; rw [if_pos rfl] at H; obtain ⟨mQ, l6⟩ : ∃ j_ : Int, (shl .i64 1 (l0.length : Int)) = j_ := ⟨_, rfl⟩; (replace H : ((impl_bitsOf.f k (wrap64 ((mQ) - 1))).bind fun bA => ((impl_determinant.f k l0 bA (wrap64 ((mQ) - 1))).bind fun eQ => (some eQ))) = some r := by first | (rw [l6] at H; exact H) | (simp only [l6] at H ⊢; exact H)); (try rw [l6] at A2); have oM : (IntKind.i64.wrap (1 * 2 ^ min (l0.length : Int).toNat 64)) = mQ := l6; have oL : (l0.length : Int) ≤ 64 → (IntKind.i64.wrap (1 * 2 ^ (l0.length : Int).toNat)) = mQ := shl_small l6; have sC : (IntKind.i64.wrap (1 * 2 ^ min l0.length 64)) = mQ := oM; have sB : (l0.length : Int) ≤ 64 → (IntKind.i64.wrap (1 * 2 ^ l0.length)) = mQ := oL; (have AW : (IntKind.i64.wrap (2 ^ min l0.length 64)) = mQ := by have h_ := sC; rw [Int.one_mul] at h_; exact h_); (have AV : (l0.length : Int) ≤ 64 → (IntKind.i64.wrap (2 ^ l0.length)) = mQ := fun hle_ => by have h_ := sB hle_; rw [Int.one_mul] at h_; exact h_); (have AU : (IntKind.i64.wrap (2 ^ min (l0.length : Int).toNat 64)) = mQ := by have h_ := oM; rw [Int.one_mul] at h_; exact h_); (have AT : (l0.length : Int) ≤ 64 → (IntKind.i64.wrap (2 ^ (l0.length : Int).toNat)) = mQ := fun hle_ => by have h_ := oL hle_; rw [Int.one_mul] at h_; exact h_); have AR : (wrap64 (1 * 2 ^ min (l0.length : Int).toNat 64)) = mQ := (i64_w _).symm.trans oM; (have AS : (l0.length : Int) ≤ 64 → (wrap64 (1 * 2 ^ (l0.length : Int).toNat)) = mQ := fun h_ => (i64_w _).symm.trans (oL h_)); obtain ⟨bA, A50, H⟩ := zO_ H; (try dsimp only at H); have A5 := zK_ A50; clear A50; obtain ⟨eQ, A70, H⟩ := zO_ H; (try dsimp only at H); have A7 := zK_ A70; clear A70; obtain rfl := Option.some.inj H; go_enter Try.func120, Try.ntmps120; (try go_wp2_with (first | ((with_reducible refine gate_callee (f := 143) rfl ?_); refine goesL_ (some 4) rfl rfl Try.func143 (by kernel_rfl) rfl #[.slice A0 l0.length c0] rfl zz4 ?_; (with_reducible refine (impl_MatrixOk.calls k _ _ l0 true _ ?side1 ?side2 A2.out).mono ?_); (case side1 => exact zz26); (case side2 => exact HC0.out); rintro e w' ⟨rfl, ⟨nd, rfl⟩⟩; refine ⟨_, rfl, ?_⟩))); replace HB := zK_ (below_drew1 (pw_below_drewN HB.out nd)); refine start_ (n := 12) (S := fun w' => True) (ds := []) (zM 12 0) (by kernel_rfl) rfl rfl trivial (fun hHeld => ?_); refine with_tabW impl_Determinant.tab3 impl_Determinant.bits3 (fun HT_ HW_ => ?_); generalize (w.drewN nd).drew = w8 at HB hHeld ⊢; refine zQ 0 6 (zM 12 1) ?_
 refine zQ 1 7 (zM 12 3) ?_
 refine zQ 2 8 (zM 12 7) ?_
 refine zQ 3 9 (zM 12 15) ?_
 refine zQ 4 10 (zM 12 31) ?_
 refine zQ 6 12 (zM 12 95) ?_
 refine zQ 7 13 (zM 12 223) ?_
 refine zQ 8 14 (zM 12 479) ?_
 refine zQ 9 15 (zM 12 991) ?_
 refine one_ (i := 5) (N := some 11) (zM 12 1023) rfl rfl (one_of HT_.out (by kernel_rfl)) (by decide) (fun K hK => ?_); refine goes_ Try.func145 (by kernel_rfl) rfl #[.int .i64 (wrap64 ((mQ) - 1))] (by rfl) rfl rfl (by (try simp only [List.map_toArray, List.map_cons, List.map_nil]); first | done | (simp only [l6]; rfl) | rfl | (simp only [List.length_drop, List.length_take]; rfl)) ?_; (with_reducible refine (impl_bitsOf.calls k (wrap64 ((mQ) - 1)) bA _ A5.out).mono ?_); rintro e w9 ⟨v103, rfl, ho0, hb⟩; refine ⟨_, rfl, ?_⟩; have n_ := zA2 (Kd.R_lower ho0 (below_size zz1)) (below_step zz1 hb); clear HB; obtain ⟨dT, HB⟩ := n_; clear ho0 hb; obtain ⟨Ao10, co10, kQ⟩ := Kd.R_slice dT.out; (first | subst kQ | (injection kQ with f1_ f2_ f3_; have f4_ := f1_.symm; have f5_ := f3_.symm; clear f1_ f2_ f3_; subst f4_; subst f5_)); refine hK.out _ _ trivial (fun hHeld => ?_); clear hK K; refine norm_ (a' := ?_) ?_ ?_; rotate_left
 ·show Act.put _ (some 11) _ = _; exact zzS
 refine one_ (i := 10) (N := some 16) (zM 12 2047) rfl rfl (one_of HT_.out (by kernel_rfl)) (by decide) (fun K hK => ?_); refine goes_ Try.func144 (by kernel_rfl) rfl #[.slice A0 l0.length c0, .slice Ao10 bA.length co10, .int .i64 (wrap64 ((mQ) - 1))] (by rfl) rfl rfl (by (try simp only [List.map_toArray, List.map_cons, List.map_nil]); first | done | (simp only [l6]; rfl) | rfl | (simp only [List.length_drop, List.length_take]; rfl)) ?_; (with_reducible refine (impl_determinant.calls k _ _ l0 _ _ bA (wrap64 ((mQ) - 1)) eQ _ ?side1 ?side2 ?side3 ?side4 A7.out).mono ?_); (case side1 => exact zz45); (case side2 => exact HC0.out); (case side3 => repeat (first | exact (Kd.R_reads' dT.out).2.2 | (with_reducible refine Kd.C_alloc ?_ _) | (with_reducible refine Kd.C_drewN ?_ _) | (with_reducible refine Kd.C_drew ?_))); (case side4 => exact (Kd.R_reads' dT.out).2.1); rintro e w11 ⟨rfl, hb⟩; refine ⟨_, rfl, ?_⟩; have n_ := zA2 (Kd.R_below zz43 hb) (below_step zz1 hb); clear dT HB; obtain ⟨dT, HB⟩ := n_; clear hb; refine hK.out _ _ trivial (fun hHeld => ?_); clear hK K; refine norm_ (a' := ?_) ?_ ?_; rotate_left
 ·show Act.put _ (some 16) _ = _; exact zzS
 refine zQ 11 2 (zM 12 4095) ?_
 refine done_ (done_of HT_.out (by kernel_rfl)) ?_; (try go_wp2); go_ret; exact ⟨by first | rfl | (simp [errW_none, errW_some] <;> rfl) | (simp only [← l6]; first | rfl | (simp [errW_none, errW_some] <;> rfl)) | (simp [*, errW_none, errW_some] <;> rfl), zz1⟩
def impl_isVertex.f (aD : Int) (aC : List (S57)) (a1 : Int) : Option (Bool) := (impl_GraphOk.f aD aC).bind fun bA => (if bA = true then ((impl_within.f a1 0 (wrap64 (aD - 1))).bind fun bL => (some bL)) else (some false))
theorem impl_isVertex.calls (aD : Int) (aH : Option Addr) (aG : Nat) (aC : List (S57)) (a1 : Int) (r : Bool) (w : World) (hr0_1 : Kd.C k57 w aH aC.length aC) (hc0_1 : aC.length ≤ aG) (h : impl_isVertex.f aD aC a1 = some r) :
  Calls Try.prog 47 #[.agg #[.int .i64 aD, .slice aH aC.length aG], .int .i64 a1] w fun e w' => e = .returned (.bool r) ∧ Below w.heap.size w w' := by
 have hu25 := Try.underlying25; have bM := zK_ hr0_1; have bG := zK_ hc0_1; clear hr0_1 hc0_1; have HB := zK_ (Below.refl w.heap.size w); have H : ((impl_GraphOk.f aD aC).bind fun bA => (if bA = true then ((impl_within.f a1 0 (wrap64 (aD - 1))).bind fun bL => (some bL)) else (some false))) = some r := h; clear h; obtain ⟨bA, A30, H⟩ := zO_ H; (try dsimp only at H); have A3 := zK_ A30; clear A30; by_cases c4 : bA = true; rotate_left
 ·replace c4 := Bool.eq_false_iff.mpr c4; subst c4; rw [if_neg (show ¬ (false = true) by decide)] at H; obtain rfl := Option.some.inj H; go_enter Try.func47, Try.ntmps47; (go_wp2_with (first | ((with_reducible refine gate_dst (N := 2) rfl ?_); refine box_event ?hg (N := 2) ?hd (cs := #[.int .i64 aD, .slice aH aC.length aG]) (t := 25) ?hr ?_; (case hd => rfl); (case hg => rfl); (case hr => exact zz9); intro aE hg w10 hbox hb; have n_ := zA4 (below_step zz1 hb) hbox (zz10 : w.heap.size ≤ aE) (zz10 : w.heap.size ≤ aE); clear HB; obtain ⟨HB, aA, GW101, GE101⟩ := n_; clear hb hbox hg; have eZ := zC20 aA; have eY := zC21 aA; have eW := blk_frozen aA.out 0; have eV := blk_frozen aA.out 1) | ((with_reducible refine gate_callee (f := 50) rfl ?_); refine goesL_ (some 6) rfl rfl Try.func50 (by kernel_rfl) rfl #[.agg #[.int .i64 aD, .slice aH aC.length aG]] rfl zz4 ?_; (with_reducible refine (impl_GraphOk.calls aD _ _ aC false _ ?side1 ?side2 A3.out).mono ?_); (case side1 => exact zz6); (case side2 => exact bG.out); rintro e w12 ⟨rfl, hb⟩; refine ⟨_, rfl, ?_⟩; have n_ := zA2 (blk_below (g := aE) (o := .cells #[.int .i64 aD, .slice aH aC.length aG] 25 (0, 0)) zz2 hb) (below_step zz0 hb); clear aA HB; obtain ⟨aA, HB⟩ := n_; clear hb))); go_ret; exact ⟨zz7, zz0⟩
 subst c4; rw [if_pos rfl] at H; obtain ⟨bL, A50, H⟩ := zO_ H; (try dsimp only at H); have A5 := zK_ A50; clear A50; obtain rfl := Option.some.inj H; go_enter Try.func47, Try.ntmps47; (go_wp2_with (first | ((with_reducible refine gate_dst (N := 2) rfl ?_); refine box_event ?hg (N := 2) ?hd (cs := #[.int .i64 aD, .slice aH aC.length aG]) (t := 25) ?hr ?_; (case hd => rfl); (case hg => rfl); (case hr => exact zz9); intro aE hg w6 hbox hb; have n_ := zA4 (below_step zz1 hb) hbox (zz10 : w.heap.size ≤ aE) (zz10 : w.heap.size ≤ aE); clear HB; obtain ⟨HB, aA, GW101, GE101⟩ := n_; clear hb hbox hg; have eE := zC20 aA; have d9 := zC21 aA; have dX := blk_frozen aA.out 0; have dW := blk_frozen aA.out 1) | ((with_reducible refine gate_callee (f := 50) rfl ?_); refine goesL_ (some 6) rfl rfl Try.func50 (by kernel_rfl) rfl #[.agg #[.int .i64 aD, .slice aH aC.length aG]] rfl zz4 ?_; (with_reducible refine (impl_GraphOk.calls aD _ _ aC true _ ?side1 ?side2 A3.out).mono ?_); (case side1 => exact zz6); (case side2 => exact bG.out); rintro e w8 ⟨rfl, hb⟩; refine ⟨_, rfl, ?_⟩; have n_ := zA2 (blk_below (g := aE) (o := .cells #[.int .i64 aD, .slice aH aC.length aG] 25 (0, 0)) zz2 hb) (below_step zz0 hb); clear aA HB; obtain ⟨aA, HB⟩ := n_; clear hb; have d8 := zC20 aA; have d7 := zC21 aA; have dV := blk_frozen aA.out 0; have dU := blk_frozen aA.out 1) | (go_at_call 39; (with_reducible refine (impl_within.calls a1 0 (wrap64 (aD - 1)) bL _ A5.out).mono ?_); rintro e w' ⟨rfl, ⟨nd, rfl⟩⟩))); go_ret; exact ⟨zz7, zz0⟩
mutual
def impl_Multiplicity.j0 : Nat → Int → Int → Bool → Int → List (S57) → Option (Int)
 | 0, _, _, _, _, _ => none
 | k + 1, x1, x2, oF, aM, aJ => if oF = true then (some 0) else (impl_Multiplicity.l0 k x1 x2 0 aJ (aJ.length : Int) 0)
def impl_Multiplicity.l0 : Nat → Int → Int → Int → List (S57) → Int → Int → Option (Int)
 | 0, _, _, _, _, _, _ => none
 | k + 1, x1, x2, x7, mS, tY, qQ => if qQ < tY then (if 0 ≤ qQ then (if qQ < (mS.length : Int) then (if ((rd_T57 mS qQ).f0) = (mn x1 x2) then (if ((rd_T57 mS qQ).f1) = (mx x1 x2) then (impl_Multiplicity.l0 k x1 x2 (wrap64 (x7 + 1)) mS tY (wrap64 (qQ + 1))) else (impl_Multiplicity.l0 k x1 x2 x7 mS tY (wrap64 (qQ + 1)))) else (impl_Multiplicity.l0 k x1 x2 x7 mS tY (wrap64 (qQ + 1)))) else (none)) else (none)) else (some x7)
end
def impl_Multiplicity.f (k : Nat) (aD : Int) (aC : List (S57)) (a1 : Int) (a2 : Int) : Option (Int) := if (mn a1 a2) < 0 then (impl_Multiplicity.j0 k a1 a2 true aD aC) else (if (mx a1 a2) ≥ aD then (impl_Multiplicity.j0 k a1 a2 true aD aC) else (impl_Multiplicity.j0 k a1 a2 (a1 == a2) aD aC))
theorem impl_Multiplicity.mono_l : ∀ k, (∀ y0 y1 y2 y3 y4, LeO (impl_Multiplicity.j0 k y0 y1 y2 y3 y4) (impl_Multiplicity.j0 (k + 1) y0 y1 y2 y3 y4)) ∧ (∀ y0 y1 y2 y3 y4 y5, LeO (impl_Multiplicity.l0 k y0 y1 y2 y3 y4 y5) (impl_Multiplicity.l0 (k + 1) y0 y1 y2 y3 y4 y5))
 | 0 => ⟨fun _ _ _ _ _ r h => by simp [impl_Multiplicity.j0] at h, fun _ _ _ _ _ _ r h => by simp [impl_Multiplicity.l0] at h⟩
 | k + 1 => by
  obtain ⟨ih0, ih1⟩ := impl_Multiplicity.mono_l k
  refine ⟨?_, ?_⟩
  ·intro y0 y1 y2 y3 y4
   unfold impl_Multiplicity.j0
   exact zm1
  ·intro y0 y1 y2 y3 y4 y5
   unfold impl_Multiplicity.l0
   exact zm1
theorem impl_Multiplicity.mono : ∀ a0 a1 a2 a3 k, LeO (impl_Multiplicity.f k a0 a1 a2 a3) (impl_Multiplicity.f (k + 1) a0 a1 a2 a3) := by
 intro a0 a1 a2 a3 k; obtain ⟨ih0, ih1⟩ := impl_Multiplicity.mono_l k; unfold impl_Multiplicity.f; exact zm1
theorem impl_Multiplicity.calls (k : Nat) (aD : Int) (aH : Option Addr) (aG : Nat) (aC : List (S57)) (a1 : Int) (a2 : Int) (r : Int) (w : World) (hr0_1 : Kd.C k57 w aH aC.length aC) (hc0_1 : aC.length ≤ aG) (h : impl_Multiplicity.f k aD aC a1 a2 = some r) :
  Calls Try.prog 123 #[.agg #[.int .i64 aD, .slice aH aC.length aG], .int .i64 a1, .int .i64 a2] w fun e w' => e = .returned (.int .i64 r) ∧ Below w.heap.size w w' := by
 have hu25 := Try.underlying25; have hu57 := Try.underlying57; have bM := zK_ hr0_1; have bG := zK_ hc0_1; clear hr0_1 hc0_1; have HB := zK_ (Below.refl w.heap.size w); have H : (if (mn a1 a2) < 0 then (impl_Multiplicity.j0 k a1 a2 true aD aC) else (if (mx a1 a2) ≥ aD then (impl_Multiplicity.j0 k a1 a2 true aD aC) else (impl_Multiplicity.j0 k a1 a2 (a1 == a2) aD aC))) = some r := h; clear h; have HC4 := zK_ H; clear H; go_enter Try.func123, Try.ntmps123; (go_upto_region 1 with (first | ((with_reducible refine gate_dst (N := 3) rfl ?_); (try (refine gate_guard (by rfl) ?_; dsimp only)); refine box_event ?hg (N := 3) ?hd (cs := #[.int .i64 aD, .slice aH aC.length aG]) (t := 25) ?hr ?_; (case hd => rfl); (case hg => rfl); (case hr => exact zz9); intro aE hg w5 hbox hb; have n_ := zA4 (below_step zz1 hb) hbox (zz10 : w.heap.size ≤ aE) (zz10 : w.heap.size ≤ aE); clear HB; obtain ⟨HB, aA, GW101, GE101⟩ := n_; clear hb hbox hg))); (try simp only [Act.put, List.setIfInBounds_toArray, List.set_cons_zero, List.set_cons_succ]); go_cut [26] (fun v26 wc => ∃ (kq : Nat) (m6 : Bool), v26 = .bool m6 ∧ Aside0 (impl_Multiplicity.j0 kq a1 a2 m6 aD aC = some r) ∧ Aside0 (kq ≤ k) ∧ Aside0 (wc.heap[aE]? = some (.cells #[.int .i64 aD, (.slice aH aC.length aG)] 25 (0, 0))) ∧ Aside0 (Below w.heap.size w wc))
 case first =>
  have H := HC4.out; clear HC4; obtain ⟨wG, rD⟩ : ∃ j_ : Int, (mn a1 a2) = j_ := ⟨_, rfl⟩; (replace H : (if (wG) < 0 then (impl_Multiplicity.j0 k a1 a2 true aD aC) else (if (mx a1 a2) ≥ aD then (impl_Multiplicity.j0 k a1 a2 true aD aC) else (impl_Multiplicity.j0 k a1 a2 (a1 == a2) aD aC))) = some r := by first | (rw [rD] at H; exact H) | (simp only [rD] at H ⊢; exact H)); have AQ : (if a2 < a1 then a2 else a1) = wG := rD; by_cases c7 : (wG) < 0
  ·rw [if_pos c7] at H; have dL := decide_eq_true c7; clear c7; (first | rw [dL] | (simp only [i64_w, i32_w]; rw [dL]) | skip); have H' := zK_ H; clear H; go_wp2; (go_meet); case rel => exact ⟨_, (true), zz5, H', ⟨by first | omega | exact Nat.le_refl _⟩, ⟨zz2⟩, ⟨zz0⟩⟩
  rw [if_neg c7] at H; have dL := decide_eq_false c7; clear c7; (first | rw [dL] | (simp only [i64_w, i32_w]; rw [dL]) | skip); obtain ⟨nC, l5⟩ : ∃ j_ : Int, (mx a1 a2) = j_ := ⟨_, rfl⟩; (replace H : (if (nC) ≥ aD then (impl_Multiplicity.j0 k a1 a2 true aD aC) else (impl_Multiplicity.j0 k a1 a2 (a1 == a2) aD aC)) = some r := by first | (rw [l5] at H; exact H) | (simp only [l5] at H ⊢; exact H)); have sA : (if a1 < a2 then a2 else a1) = nC := l5; by_cases c9 : (nC) ≥ aD
  ·rw [if_pos c9] at H; have fJ : decide (aD ≤ (nC)) = true := decide_eq_true c9; clear c9; have H' := zK_ H; clear H; have cN := zC20 aA; have cM := zC21 aA; have cK := blk_frozen aA.out 0; have cJ := blk_frozen aA.out 1; go_wp2; (go_meet); case rel => exact ⟨_, (true), zz5, H', ⟨by first | omega | exact Nat.le_refl _⟩, ⟨zz2⟩, ⟨zz0⟩⟩
  rw [if_neg c9] at H; have fJ : decide (aD ≤ (nC)) = false := decide_eq_false c9; clear c9; have H' := zK_ H; clear H; have eZ := zC20 aA; have eY := zC21 aA; have eW := blk_frozen aA.out 0; have eV := blk_frozen aA.out 1; go_wp2; (go_meet); case rel => exact ⟨_, ((a1 == a2)), zz5, H', ⟨by first | omega | exact Nat.le_refl _⟩, ⟨zz2⟩, ⟨zz0⟩⟩
 case rest =>
  clear HC4; (try clear c1); (try clear p2); (try clear c7); (try clear dL); (try clear c9); (try clear fJ); (try clear cN); (try clear cM); (try clear eZ); (try clear eY); (try clear cK); (try clear cJ); (try clear eW); (try clear eV); obtain ⟨kq, m6, rfl, HA, HJ3, aA, HB⟩ := hcut
  cases kq with
  | zero => exact absurd HA.out (by simp [impl_Multiplicity.j0])
  | succ kj3 =>
   have H := HA.out; clear HA; simp only [impl_Multiplicity.j0] at H; by_cases c12 : m6 = true
   ·subst c12; rw [if_pos rfl] at H; obtain rfl := Option.some.inj H; go_wp2; go_ret; exact ⟨zz7, zz0⟩
   replace c12 := Bool.eq_false_iff.mpr c12; subst c12; rw [if_neg (show ¬ (false = true) by decide)] at H; have H' := zK_ H; clear H; have lT := zC20 aA; have lS := zC21 aA; have lL := blk_frozen aA.out 0; have lK := blk_frozen aA.out 1; go_wp2; (go_loopg [7, 30] kj3 (fun kq v7 v30 w' => ∃ (gM : Int) (cT : Int), v7 = .int .i64 gM ∧ v30 = .int .i64 cT ∧ Aside0 (impl_Multiplicity.l0 kq a1 a2 gM aC (aC.length : Int) cT = some r) ∧ Aside0 (kq ≤ kj3) ∧ Aside0 (w'.heap[aE]? = some (.cells #[.int .i64 aD, (.slice aH aC.length aG)] 25 (0, 0))) ∧ Aside0 (Below w.heap.size w w'))); case atStart => exact ⟨(0), (0), zz5, zz5, H', ⟨Nat.le_refl _⟩, ⟨zz2⟩, ⟨zz0⟩⟩
   case round =>
    clear H'; (try clear c1); (try clear p2); (try clear c7); (try clear dL); (try clear c9); (try clear fJ); (try clear c12); (try clear cN); (try clear cM); (try clear eZ); (try clear eY); (try clear lT); (try clear lS); (try clear cK); (try clear cJ); (try clear eW); (try clear eV); (try clear lL); (try clear lK); (try clear p2); obtain ⟨gM, cT, rfl, rfl, HA, HK2, aA, HB⟩ := hrel
    cases gk with
    | zero => exact absurd HA.out (by simp [impl_Multiplicity.l0])
    | succ k2 =>
     have H := HA.out; clear HA; simp only [impl_Multiplicity.l0] at H; by_cases c14 : cT < (aC.length : Int); rotate_left
     ·rw [if_neg c14] at H; have gE := decide_eq_false c14; clear c14; obtain rfl := Option.some.inj H; go_wp2; go_ret; exact ⟨zz7, zz0⟩
     rw [if_pos c14] at H; have gE := decide_eq_true c14; clear c14; by_cases c15 : 0 ≤ cT; rotate_left
     ·rw [if_neg c15] at H; exact absurd H (by simp)
     rw [if_pos c15] at H; have iF := decide_eq_true c15; clear c15; by_cases c16 : cT < (aC.length : Int); rotate_left
     ·rw [if_neg c16] at H; exact absurd H (by simp)
     rw [if_pos c16] at H; have iE := decide_eq_true c16; clear c16; obtain ⟨dA, fI⟩ : ∃ j_ : Int, (mn a1 a2) = j_ := ⟨_, rfl⟩; (replace H : (if ((rd_T57 aC cT).f0) = (dA) then (if ((rd_T57 aC cT).f1) = (mx a1 a2) then (impl_Multiplicity.l0 k2 a1 a2 (wrap64 (gM + 1)) aC (aC.length : Int) (wrap64 (cT + 1))) else (impl_Multiplicity.l0 k2 a1 a2 gM aC (aC.length : Int) (wrap64 (cT + 1)))) else (impl_Multiplicity.l0 k2 a1 a2 gM aC (aC.length : Int) (wrap64 (cT + 1)))) = some r := by first | (rw [fI] at H; exact H) | (simp only [fI] at H ⊢; exact H)); have lD : (if a2 < a1 then a2 else a1) = dA := fI; by_cases c18 : ((rd_T57 aC cT).f0) = (dA); rotate_left
     ·rw [if_neg c18] at H; have iD : (((rd_T57 aC cT).f0) == (dA)) = false := beq_eq_false_iff_ne.mpr c18; have nY : (((rd_T57 aC cT).f0) != (dA)) = true := bne_iff_ne.mpr c18; have H' := zK_ H; clear H; have p102 : 0 ≤ (cT : Int) := of_decide_eq_true zz3; have q102 : cT < (aC.length : Int) := of_decide_eq_true zz3; obtain ⟨cO, e102, a7, bS⟩ := at_T57 bM.out cT p102 q102; cases e102; replace a7 := (HB.out.cell (World.block_lt_of_cell? w _ a7)).trans a7; replace bS := (HB.out.cell (World.block_lt_of_cell? w _ bS)).trans bS; replace p102 := eq_true p102; replace q102 := eq_true q102; (go_wp2_with (first | ((with_reducible refine gate_dst (N := 9) rfl ?_); (try (refine gate_guard (by rfl) ?_; dsimp only)); refine box_event ?hg (N := 9) ?hd (cs := #[.int .i64 0, .int .i64 0]) (t := 57) ?hr ?_; (case hd => rfl); (case hg => rfl); (case hr => exact zz9); intro b7 hg w27 hbox hb; have n_ := zA7 (blk_below (g := aE) (o := .cells #[.int .i64 aD, .slice (some cO) aC.length aG] 25 (0, 0)) zz2 hb) (below_step zz0 hb) hbox (zz13 : w.heap.size ≤ b7) (zz13 : w.heap.size ≤ b7) (zz37 : aE ≠ b7) (zz38 : b7 ≠ aE); clear aA HB; obtain ⟨aA, HB, b5, GW103, GE103, b9, cR⟩ := n_; clear hb hbox hg; have AE := cR.out; have zH := b9.out; have lN := zC20 b5; have lM := zC21 b5; have lF := blk_frozen b5.out 0; have lE := blk_frozen b5.out 1))); go_roundg k2; (case measure => have := HJ3.out; have := HK2.out; omega); case rel => exact ⟨(gM), (wrap64 (cT + 1)), zz5, zz5, H', ⟨by have := HJ3.out; have := HK2.out; omega⟩, ⟨zz15⟩, ⟨zz28⟩⟩
     rw [if_pos c18] at H; have iD : (((rd_T57 aC cT).f0) == (dA)) = true := beq_iff_eq.mpr c18; have nY : (((rd_T57 aC cT).f0) != (dA)) = false := bne_eq_false_iff_eq.mpr c18; clear c18; obtain ⟨fO, jW⟩ : ∃ j_ : Int, (mx a1 a2) = j_ := ⟨_, rfl⟩; (replace H : (if ((rd_T57 aC cT).f1) = (fO) then (impl_Multiplicity.l0 k2 a1 a2 (wrap64 (gM + 1)) aC (aC.length : Int) (wrap64 (cT + 1))) else (impl_Multiplicity.l0 k2 a1 a2 gM aC (aC.length : Int) (wrap64 (cT + 1)))) = some r := by first | (rw [jW] at H; exact H) | (simp only [jW] at H ⊢; exact H)); have xD : (if a1 < a2 then a2 else a1) = fO := jW; by_cases c20 : ((rd_T57 aC cT).f1) = (fO); rotate_left
     ·rw [if_neg c20] at H; have kZ : (((rd_T57 aC cT).f1) == (fO)) = false := beq_eq_false_iff_ne.mpr c20; have tE : (((rd_T57 aC cT).f1) != (fO)) = true := bne_iff_ne.mpr c20; have H' := zK_ H; clear H; have p102 : 0 ≤ (cT : Int) := of_decide_eq_true zz3; have q102 : cT < (aC.length : Int) := of_decide_eq_true zz3; obtain ⟨cO, e102, a7, bS⟩ := at_T57 bM.out cT p102 q102; cases e102; replace a7 := (HB.out.cell (World.block_lt_of_cell? w _ a7)).trans a7; replace bS := (HB.out.cell (World.block_lt_of_cell? w _ bS)).trans bS; replace p102 := eq_true p102; replace q102 := eq_true q102; (go_wp2_with (first | ((with_reducible refine gate_dst (N := 9) rfl ?_); (try (refine gate_guard (by rfl) ?_; dsimp only)); refine box_event ?hg (N := 9) ?hd (cs := #[.int .i64 0, .int .i64 0]) (t := 57) ?hr ?_; (case hd => rfl); (case hg => rfl); (case hr => exact zz9); intro b7 hg w24 hbox hb; have n_ := zA7 (blk_below (g := aE) (o := .cells #[.int .i64 aD, .slice (some cO) aC.length aG] 25 (0, 0)) zz2 hb) (below_step zz0 hb) hbox (zz13 : w.heap.size ≤ b7) (zz13 : w.heap.size ≤ b7) (zz37 : aE ≠ b7) (zz38 : b7 ≠ aE); clear aA HB; obtain ⟨aA, HB, b5, GW103, GE103, b9, cR⟩ := n_; clear hb hbox hg; have AH := cR.out; have zK := b9.out; have iP := zC20 b5; have iO := zC21 b5; have iL := blk_frozen b5.out 0; have iK := blk_frozen b5.out 1))); go_roundg k2; (case measure => have := HJ3.out; have := HK2.out; omega); case rel => exact ⟨(gM), (wrap64 (cT + 1)), zz5, zz5, H', ⟨by have := HJ3.out; have := HK2.out; omega⟩, ⟨zz15⟩, ⟨zz28⟩⟩
     rw [if_pos c20] at H; have kZ : (((rd_T57 aC cT).f1) == (fO)) = true := beq_iff_eq.mpr c20; have tE : (((rd_T57 aC cT).f1) != (fO)) = false := bne_eq_false_iff_eq.mpr c20; clear c20; have H' := zK_ H; clear H; have p102 : 0 ≤ (cT : Int) := of_decide_eq_true zz3; have q102 : cT < (aC.length : Int) := of_decide_eq_true zz3; obtain ⟨cO, e102, a7, bS⟩ := at_T57 bM.out cT p102 q102; cases e102; replace a7 := (HB.out.cell (World.block_lt_of_cell? w _ a7)).trans a7; replace bS := (HB.out.cell (World.block_lt_of_cell? w _ bS)).trans bS; replace p102 := eq_true p102; replace q102 := eq_true q102; (go_wp2_with (first | ((with_reducible refine gate_dst (N := 9) rfl ?_); (try (refine gate_guard (by rfl) ?_; dsimp only)); refine box_event ?hg (N := 9) ?hd (cs := #[.int .i64 0, .int .i64 0]) (t := 57) ?hr ?_; (case hd => rfl); (case hg => rfl); (case hr => exact zz9); intro b7 hg w21 hbox hb; have n_ := zA7 (blk_below (g := aE) (o := .cells #[.int .i64 aD, .slice (some cO) aC.length aG] 25 (0, 0)) zz2 hb) (below_step zz0 hb) hbox (zz13 : w.heap.size ≤ b7) (zz13 : w.heap.size ≤ b7) (zz37 : aE ≠ b7) (zz38 : b7 ≠ aE); clear aA HB; obtain ⟨aA, HB, b5, GW103, GE103, b9, cR⟩ := n_; clear hb hbox hg; have qU := cR.out; have qR := b9.out; have kD := zC20 b5; have kC := zC21 b5; have j7 := blk_frozen b5.out 0; have j6 := blk_frozen b5.out 1))); go_roundg k2; (case measure => have := HJ3.out; have := HK2.out; omega); case rel => exact ⟨(wrap64 (gM + 1)), (wrap64 (cT + 1)), zz5, zz5, H', ⟨by have := HJ3.out; have := HK2.out; omega⟩, ⟨zz15⟩, ⟨zz28⟩⟩
end Go.Proofs.Ytnbljcgdgblgoaa.P
end

section
namespace Go.Proofs.Ytnbljcgdgblgoaa.P
open Go.RowKit Go.Proofs.YtnbljcgdgblgoaaW.PrintWords Go.Proofs.YtnbljcgdgblgoaaW.PrintLast Go.Proofs.YtnbljcgdgblgoaaW.PrintMore
attribute [local go_sem] max2_int min2_int max_two min_two max_three min_three max_four min_four
set_option linter.unusedVariables false
set_option linter.unusedSimpArgs false
mutual
def impl_Valence.j0 : Nat → Int → Bool → Int → List (S57) → Option (Int)
 | 0, _, _, _, _ => none
 | k + 1, x1, iY, aM, aJ => if iY = true then (some 0) else (impl_Valence.l0 k x1 0 aJ (aJ.length : Int) 0)
def impl_Valence.l0 : Nat → Int → Int → List (S57) → Int → Int → Option (Int)
 | 0, _, _, _, _, _ => none
 | k + 1, x1, x5, g9, g8, mT => if mT < g8 then (if 0 ≤ mT then (if mT < (g9.length : Int) then (if ((rd_T57 g9 mT).f0) = x1 then (impl_Valence.l0 k x1 (wrap64 (x5 + 1)) g9 g8 (wrap64 (mT + 1))) else (if ((rd_T57 g9 mT).f1) = x1 then (impl_Valence.l0 k x1 (wrap64 (x5 + 1)) g9 g8 (wrap64 (mT + 1))) else (impl_Valence.l0 k x1 x5 g9 g8 (wrap64 (mT + 1))))) else (none)) else (none)) else (some x5)
end
def impl_Valence.f (k : Nat) (aD : Int) (aC : List (S57)) (a1 : Int) : Option (Int) := if a1 < 0 then (impl_Valence.j0 k a1 true aD aC) else (impl_Valence.j0 k a1 (decide (a1 ≥ aD)) aD aC)
theorem impl_Valence.mono_l : ∀ k, (∀ y0 y1 y2 y3, LeO (impl_Valence.j0 k y0 y1 y2 y3) (impl_Valence.j0 (k + 1) y0 y1 y2 y3)) ∧ (∀ y0 y1 y2 y3 y4, LeO (impl_Valence.l0 k y0 y1 y2 y3 y4) (impl_Valence.l0 (k + 1) y0 y1 y2 y3 y4))
 | 0 => ⟨fun _ _ _ _ r h => by simp [impl_Valence.j0] at h, fun _ _ _ _ _ r h => by simp [impl_Valence.l0] at h⟩
 | k + 1 => by
  obtain ⟨ih0, ih1⟩ := impl_Valence.mono_l k
  refine ⟨?_, ?_⟩
  ·intro y0 y1 y2 y3
   unfold impl_Valence.j0
   exact zm1
  ·intro y0 y1 y2 y3 y4
   unfold impl_Valence.l0
   exact zm1
theorem impl_Valence.mono : ∀ a0 a1 a2 k, LeO (impl_Valence.f k a0 a1 a2) (impl_Valence.f (k + 1) a0 a1 a2) := by
 intro a0 a1 a2 k; obtain ⟨ih0, ih1⟩ := impl_Valence.mono_l k; unfold impl_Valence.f; exact zm1
theorem impl_Valence.calls (k : Nat) (aD : Int) (aH : Option Addr) (aG : Nat) (aC : List (S57)) (a1 : Int) (r : Int) (w : World) (hr0_1 : Kd.C k57 w aH aC.length aC) (hc0_1 : aC.length ≤ aG) (h : impl_Valence.f k aD aC a1 = some r) :
  Calls Try.prog 75 #[.agg #[.int .i64 aD, .slice aH aC.length aG], .int .i64 a1] w fun e w' => e = .returned (.int .i64 r) ∧ Below w.heap.size w w' := by
 have hu25 := Try.underlying25; have hu57 := Try.underlying57; have bM := zK_ hr0_1; have bG := zK_ hc0_1; clear hr0_1 hc0_1; have HB := zK_ (Below.refl w.heap.size w); have H : (if a1 < 0 then (impl_Valence.j0 k a1 true aD aC) else (impl_Valence.j0 k a1 (decide (a1 ≥ aD)) aD aC)) = some r := h; clear h; have HC3 := zK_ H; clear H; go_enter Try.func75, Try.ntmps75; (go_upto_region 1 with (first | ((with_reducible refine gate_dst (N := 2) rfl ?_); refine box_event ?hg (N := 2) ?hd (cs := #[.int .i64 aD, .slice aH aC.length aG]) (t := 25) ?hr ?_; (case hd => rfl); (case hg => rfl); (case hr => exact zz9); intro aE hg w4 hbox hb; have n_ := zA4 (below_step zz1 hb) hbox (zz10 : w.heap.size ≤ aE) (zz10 : w.heap.size ≤ aE); clear HB; obtain ⟨HB, aA, GW101, GE101⟩ := n_; clear hb hbox hg))); (try simp only [Act.put, List.setIfInBounds_toArray, List.set_cons_zero, List.set_cons_succ]); go_cut [15] (fun v15 wc => ∃ (kq : Nat) (nA : Bool), v15 = .bool nA ∧ Aside0 (impl_Valence.j0 kq a1 nA aD aC = some r) ∧ Aside0 (kq ≤ k) ∧ Aside0 (wc.heap[aE]? = some (.cells #[.int .i64 aD, (.slice aH aC.length aG)] 25 (0, 0))) ∧ Aside0 (Below w.heap.size w wc))
 case first =>
  have H := HC3.out; clear HC3; by_cases c5 : a1 < 0
  ·rw [if_pos c5] at H; have dF := decide_eq_true c5; clear c5; (first | rw [dF] | (simp only [i64_w, i32_w]; rw [dF]) | skip); have H' := zK_ H; clear H; go_wp2; (go_meet); case rel => exact ⟨_, (true), zz5, H', ⟨by first | omega | exact Nat.le_refl _⟩, ⟨zz2⟩, ⟨zz0⟩⟩
  rw [if_neg c5] at H; have dF := decide_eq_false c5; clear c5; (first | rw [dF] | (simp only [i64_w, i32_w]; rw [dF]) | skip); have H' := zK_ H; clear H; have gD := zC20 aA; have gC := zC21 aA; have f8 := blk_frozen aA.out 0; have f7 := blk_frozen aA.out 1; go_wp2; (go_meet); case rel => exact ⟨_, (decide (a1 ≥ aD)), zz5, H', ⟨by first | omega | exact Nat.le_refl _⟩, ⟨zz2⟩, ⟨zz0⟩⟩
 case rest =>
  clear HC3; (try clear p2); (try clear c5); (try clear dF); (try clear gD); (try clear gC); (try clear f8); (try clear f7); obtain ⟨kq, nA, rfl, HA, HJ2, aA, HB⟩ := hcut
  cases kq with
  | zero => exact absurd HA.out (by simp [impl_Valence.j0])
  | succ kj2 =>
   have H := HA.out; clear HA; simp only [impl_Valence.j0] at H; by_cases c7 : nA = true
   ·subst c7; rw [if_pos rfl] at H; obtain rfl := Option.some.inj H; go_wp2; go_ret; exact ⟨zz7, zz0⟩
   replace c7 := Bool.eq_false_iff.mpr c7; subst c7; rw [if_neg (show ¬ (false = true) by decide)] at H; have H' := zK_ H; clear H; have gA := zC20 aA; have f9 := zC21 aA; have f4 := blk_frozen aA.out 0; have f3 := blk_frozen aA.out 1; go_wp2; (go_loopg [5, 19] kj2 (fun kq v5 v19 w' => ∃ (bN : Int) (dM : Int), v5 = .int .i64 bN ∧ v19 = .int .i64 dM ∧ Aside0 (impl_Valence.l0 kq a1 bN aC (aC.length : Int) dM = some r) ∧ Aside0 (kq ≤ kj2) ∧ Aside0 (w'.heap[aE]? = some (.cells #[.int .i64 aD, (.slice aH aC.length aG)] 25 (0, 0))) ∧ Aside0 (Below w.heap.size w w'))); case atStart => exact ⟨(0), (0), zz5, zz5, H', ⟨Nat.le_refl _⟩, ⟨zz2⟩, ⟨zz0⟩⟩
   case round =>
    clear H'; (try clear p2); (try clear c5); (try clear dF); (try clear c7); (try clear gD); (try clear gC); (try clear gA); (try clear f9); (try clear f8); (try clear f7); (try clear f4); (try clear f3); (try clear p2); obtain ⟨bN, dM, rfl, rfl, HA, HK2, aA, HB⟩ := hrel
    cases gk with
    | zero => exact absurd HA.out (by simp [impl_Valence.l0])
    | succ k2 =>
     have H := HA.out; clear HA; simp only [impl_Valence.l0] at H; by_cases c9 : dM < (aC.length : Int); rotate_left
     ·rw [if_neg c9] at H; have fJ := decide_eq_false c9; clear c9; obtain rfl := Option.some.inj H; go_wp2; go_ret; exact ⟨zz7, zz0⟩
     rw [if_pos c9] at H; have fJ := decide_eq_true c9; clear c9; by_cases c10 : 0 ≤ dM; rotate_left
     ·rw [if_neg c10] at H; exact absurd H (by simp)
     rw [if_pos c10] at H; have gN := decide_eq_true c10; clear c10; by_cases c11 : dM < (aC.length : Int); rotate_left
     ·rw [if_neg c11] at H; exact absurd H (by simp)
     rw [if_pos c11] at H; have jY := decide_eq_true c11; clear c11; by_cases c12 : ((rd_T57 aC dM).f0) = a1
     ·rw [if_pos c12] at H; have jX : (((rd_T57 aC dM).f0) == a1) = true := beq_iff_eq.mpr c12; have n5 : (((rd_T57 aC dM).f0) != a1) = false := bne_eq_false_iff_eq.mpr c12; clear c12; have H' := zK_ H; clear H; have p102 : 0 ≤ (dM : Int) := of_decide_eq_true zz3; have q102 : dM < (aC.length : Int) := of_decide_eq_true zz3; obtain ⟨cO, e102, a7, bS⟩ := at_T57 bM.out dM p102 q102; cases e102; replace a7 := (HB.out.cell (World.block_lt_of_cell? w _ a7)).trans a7; replace bS := (HB.out.cell (World.block_lt_of_cell? w _ bS)).trans bS; replace p102 := eq_true p102; replace q102 := eq_true q102; (go_wp2_with (first | ((with_reducible refine gate_dst (N := 7) rfl ?_); refine box_event ?hg (N := 7) ?hd (cs := #[.int .i64 0, .int .i64 0]) (t := 57) ?hr ?_; (case hd => rfl); (case hg => rfl); (case hr => exact zz9); intro b7 hg w13 hbox hb; have n_ := zA7 (blk_below (g := aE) (o := .cells #[.int .i64 aD, .slice (some cO) aC.length aG] 25 (0, 0)) zz2 hb) (below_step zz0 hb) hbox (zz13 : w.heap.size ≤ b7) (zz13 : w.heap.size ≤ b7) (zz37 : aE ≠ b7) (zz38 : b7 ≠ aE); clear aA HB; obtain ⟨aA, HB, b5, GW103, GE103, b9, cR⟩ := n_; clear hb hbox hg; have qW := cR.out; have qT := b9.out; have gK := zC20 b5; have gJ := zC21 b5; have gI := blk_frozen b5.out 0; have gH := blk_frozen b5.out 1))); go_roundg k2; (case measure => have := HJ2.out; have := HK2.out; omega); case rel => exact ⟨(wrap64 (bN + 1)), (wrap64 (dM + 1)), zz5, zz5, H', ⟨by have := HJ2.out; have := HK2.out; omega⟩, ⟨zz15⟩, ⟨zz28⟩⟩
     rw [if_neg c12] at H; have jX : (((rd_T57 aC dM).f0) == a1) = false := beq_eq_false_iff_ne.mpr c12; have n5 : (((rd_T57 aC dM).f0) != a1) = true := bne_iff_ne.mpr c12; by_cases c16 : ((rd_T57 aC dM).f1) = a1; rotate_left
     ·rw [if_neg c16] at H; have iE : (((rd_T57 aC dM).f1) == a1) = false := beq_eq_false_iff_ne.mpr c16; have n4 : (((rd_T57 aC dM).f1) != a1) = true := bne_iff_ne.mpr c16; have H' := zK_ H; clear H; have p102 : 0 ≤ (dM : Int) := of_decide_eq_true zz3; have q102 : dM < (aC.length : Int) := of_decide_eq_true zz3; obtain ⟨cO, e102, a7, bS⟩ := at_T57 bM.out dM p102 q102; cases e102; replace a7 := (HB.out.cell (World.block_lt_of_cell? w _ a7)).trans a7; replace bS := (HB.out.cell (World.block_lt_of_cell? w _ bS)).trans bS; replace p102 := eq_true p102; replace q102 := eq_true q102; (go_wp2_with (first | ((with_reducible refine gate_dst (N := 7) rfl ?_); refine box_event ?hg (N := 7) ?hd (cs := #[.int .i64 0, .int .i64 0]) (t := 57) ?hr ?_; (case hd => rfl); (case hg => rfl); (case hr => exact zz9); intro b7 hg w20 hbox hb; have n_ := zA7 (blk_below (g := aE) (o := .cells #[.int .i64 aD, .slice (some cO) aC.length aG] 25 (0, 0)) zz2 hb) (below_step zz0 hb) hbox (zz13 : w.heap.size ≤ b7) (zz13 : w.heap.size ≤ b7) (zz37 : aE ≠ b7) (zz38 : b7 ≠ aE); clear aA HB; obtain ⟨aA, HB, b5, GW103, GE103, b9, cR⟩ := n_; clear hb hbox hg; have r7 := cR.out; have r3 := b9.out; have lR := zC20 b5; have lQ := zC21 b5; have lJ := blk_frozen b5.out 0; have lI := blk_frozen b5.out 1))); go_roundg k2; (case measure => have := HJ2.out; have := HK2.out; omega); case rel => exact ⟨(bN), (wrap64 (dM + 1)), zz5, zz5, H', ⟨by have := HJ2.out; have := HK2.out; omega⟩, ⟨zz15⟩, ⟨zz28⟩⟩
     rw [if_pos c16] at H; have iE : (((rd_T57 aC dM).f1) == a1) = true := beq_iff_eq.mpr c16; have n4 : (((rd_T57 aC dM).f1) != a1) = false := bne_eq_false_iff_eq.mpr c16; clear c16; have H' := zK_ H; clear H; have p102 : 0 ≤ (dM : Int) := of_decide_eq_true zz3; have q102 : dM < (aC.length : Int) := of_decide_eq_true zz3; obtain ⟨cO, e102, a7, bS⟩ := at_T57 bM.out dM p102 q102; cases e102; replace a7 := (HB.out.cell (World.block_lt_of_cell? w _ a7)).trans a7; replace bS := (HB.out.cell (World.block_lt_of_cell? w _ bS)).trans bS; replace p102 := eq_true p102; replace q102 := eq_true q102; (go_wp2_with (first | ((with_reducible refine gate_dst (N := 7) rfl ?_); refine box_event ?hg (N := 7) ?hd (cs := #[.int .i64 0, .int .i64 0]) (t := 57) ?hr ?_; (case hd => rfl); (case hg => rfl); (case hr => exact zz9); intro b7 hg w17 hbox hb; have n_ := zA7 (blk_below (g := aE) (o := .cells #[.int .i64 aD, .slice (some cO) aC.length aG] 25 (0, 0)) zz2 hb) (below_step zz0 hb) hbox (zz13 : w.heap.size ≤ b7) (zz13 : w.heap.size ≤ b7) (zz37 : aE ≠ b7) (zz38 : b7 ≠ aE); clear aA HB; obtain ⟨aA, HB, b5, GW103, GE103, b9, cR⟩ := n_; clear hb hbox hg; have qV := cR.out; have qS := b9.out; have jI := zC20 b5; have jH := zC21 b5; have jA := blk_frozen b5.out 0; have i9 := blk_frozen b5.out 1))); go_roundg k2; (case measure => have := HJ2.out; have := HK2.out; omega); case rel => exact ⟨(wrap64 (bN + 1)), (wrap64 (dM + 1)), zz5, zz5, H', ⟨by have := HJ2.out; have := HK2.out; omega⟩, ⟨zz15⟩, ⟨zz28⟩⟩
end Go.Proofs.Ytnbljcgdgblgoaa.P
end

section
namespace Go.Proofs.Ytnbljcgdgblgoaa.P
open Go.RowKit Go.Proofs.YtnbljcgdgblgoaaW.PrintWords Go.Proofs.YtnbljcgdgblgoaaW.PrintLast Go.Proofs.YtnbljcgdgblgoaaW.PrintMore
attribute [local go_sem] max2_int min2_int max_two min_two max_three min_three max_four min_four
set_option linter.unusedVariables false
set_option linter.unusedSimpArgs false
mutual
def impl_LaplacianOf.l0 : Nat → List (List Int) → Int → Int → List (S57) → Option ((List (List Int)))
 | 0, _, _, _, _ => none
 | k + 1, x3, x4, aM, aJ => if x4 < aM then (if 0 ≤ aM then (if (aM : Int).toNat ≤ 35184372088832 then ((some (List.replicate (aM : Int).toNat 0 : List Int)).bind fun fK => (impl_LaplacianOf.l1 k x3 x4 fK (fK.length : Int) 0 aM aJ)) else (none)) else (none)) else (some x3)
def impl_LaplacianOf.l1 : Nat → List (List Int) → Int → List Int → Int → Int → Int → List (S57) → Option ((List (List Int)))
 | 0, _, _, _, _, _, _, _ => none
 | k + 1, x3, x4, x5, q7, kO, aM, aJ => if kO < q7 then ((impl_Multiplicity.f k aM aJ x4 kO).bind fun dP => (if 0 ≤ kO then (if kO < (x5.length : Int) then (impl_LaplacianOf.l1 k x3 x4 (x5.set (kO : Int).toNat (wrap64 (-dP))) q7 (wrap64 (kO + 1)) aM aJ) else (none)) else (none))) else ((impl_Valence.f k aM aJ x4).bind fun fN => (if 0 ≤ x4 then (if x4 < (x5.length : Int) then (if x3.length < 5864062014805 then (impl_LaplacianOf.l0 k (x3 ++ [(x5.set (x4 : Int).toNat fN)]) (wrap64 (x4 + 1)) aM aJ) else (none)) else (none)) else (none)))
end
def impl_LaplacianOf.f (k : Nat) (aD : Int) (aC : List (S57)) : Option ((List (List Int))) := (impl_GraphOk.f aD aC).bind fun bA => (if bA = true then (impl_LaplacianOf.l0 k ([] : List (List Int)) 0 aD aC) else (some ([] : List (List Int))))
theorem impl_LaplacianOf.mono_l : ∀ k, (∀ y0 y1 y2 y3, LeO (impl_LaplacianOf.l0 k y0 y1 y2 y3) (impl_LaplacianOf.l0 (k + 1) y0 y1 y2 y3)) ∧ (∀ y0 y1 y2 y3 y4 y5 y6, LeO (impl_LaplacianOf.l1 k y0 y1 y2 y3 y4 y5 y6) (impl_LaplacianOf.l1 (k + 1) y0 y1 y2 y3 y4 y5 y6))
 | 0 => ⟨fun _ _ _ _ r h => by simp [impl_LaplacianOf.l0] at h, fun _ _ _ _ _ _ _ r h => by simp [impl_LaplacianOf.l1] at h⟩
 | k + 1 => by
  obtain ⟨ih0, ih1⟩ := impl_LaplacianOf.mono_l k
  refine ⟨?_, ?_⟩
  ·intro y0 y1 y2 y3
   unfold impl_LaplacianOf.l0
   exact zm8
  ·intro y0 y1 y2 y3 y4 y5 y6
   unfold impl_LaplacianOf.l1
   exact zm8
theorem impl_LaplacianOf.mono : ∀ a0 a1 k, LeO (impl_LaplacianOf.f k a0 a1) (impl_LaplacianOf.f (k + 1) a0 a1) := by
 intro a0 a1 k; obtain ⟨ih0, ih1⟩ := impl_LaplacianOf.mono_l k; unfold impl_LaplacianOf.f; exact zm8
theorem impl_LaplacianOf.calls (k : Nat) (aD : Int) (aH : Option Addr) (aG : Nat) (aC : List (S57)) (r : List (List Int)) (w : World) (hr0_1 : Kd.C k57 w aH aC.length aC) (hc0_1 : aC.length ≤ aG) (h : impl_LaplacianOf.f k aD aC = some r) :
  Calls Try.prog 146 #[.agg #[.int .i64 aD, .slice aH aC.length aG]] w fun e w' => ∃ v0_ : Value, e = .returned (v0_) ∧ Kd.S (Kd.slice 3 (Kd.int .i64)) 26 w' w.heap.size (fun _ => True) v0_ r ∧ Below w.heap.size w w' := by
 have hu25 := Try.underlying25; have bM := zK_ hr0_1; have bG := zK_ hc0_1; clear hr0_1 hc0_1; have HB := zK_ (Below.refl w.heap.size w); have H : ((impl_GraphOk.f aD aC).bind fun bA => (if bA = true then (impl_LaplacianOf.l0 k ([] : List (List Int)) 0 aD aC) else (some ([] : List (List Int))))) = some r := h; clear h; obtain ⟨bA, A20, H⟩ := zO_ H; (try dsimp only at H); have A2 := zK_ A20; clear A20; by_cases c3 : bA = true; rotate_left
 ·replace c3 := Bool.eq_false_iff.mpr c3; subst c3; rw [if_neg (show ¬ (false = true) by decide)] at H; obtain rfl := Option.some.inj H; go_enter Try.func146, Try.ntmps146; (go_wp2_with (first | ((with_reducible refine gate_dst (N := 1) rfl ?_); refine box_event ?hg (N := 1) ?hd (cs := #[.int .i64 aD, .slice aH aC.length aG]) (t := 25) ?hr ?_; (case hd => rfl); (case hg => rfl); (case hr => exact zz9); intro aE hg w34 hbox hb; have n_ := zA4 (below_step zz1 hb) hbox (zz10 : w.heap.size ≤ aE) (zz10 : w.heap.size ≤ aE); clear HB; obtain ⟨HB, aA, GW101, GE101⟩ := n_; clear hb hbox hg; have jE := zC20 aA; have jD := zC21 aA; have i6 := blk_frozen aA.out 0; have i5 := blk_frozen aA.out 1) | ((with_reducible refine gate_callee (f := 50) rfl ?_); refine goesL_ (some 8) rfl rfl Try.func50 (by kernel_rfl) rfl #[.agg #[.int .i64 aD, .slice aH aC.length aG]] rfl zz4 ?_; (with_reducible refine (impl_GraphOk.calls aD _ _ aC false _ ?side1 ?side2 A2.out).mono ?_); (case side1 => exact zz6); (case side2 => exact bG.out); rintro e w36 ⟨rfl, hb⟩; refine ⟨_, rfl, ?_⟩; have n_ := zA2 (blk_below (g := aE) (o := .cells #[.int .i64 aD, .slice aH aC.length aG] 25 (0, 0)) zz2 hb) (below_step zz0 hb); clear aA HB; obtain ⟨aA, HB⟩ := n_; clear hb))); go_ret; exact ⟨_, zz7, zz52, zz0⟩
 subst c3; rw [if_pos rfl] at H; have H' := zK_ H; clear H; go_enter Try.func146, Try.ntmps146; (go_wp2_with (first | ((with_reducible refine gate_dst (N := 1) rfl ?_); refine box_event ?hg (N := 1) ?hd (cs := #[.int .i64 aD, .slice aH aC.length aG]) (t := 25) ?hr ?_; (case hd => rfl); (case hg => rfl); (case hr => exact zz9); intro aE hg w4 hbox hb; have n_ := zA4 (below_step zz1 hb) hbox (zz10 : w.heap.size ≤ aE) (zz10 : w.heap.size ≤ aE); clear HB; obtain ⟨HB, aA, GW101, GE101⟩ := n_; clear hb hbox hg; have iC := zC20 aA; have iB := zC21 aA; have iA := blk_frozen aA.out 0; have hY := blk_frozen aA.out 1) | ((with_reducible refine gate_callee (f := 50) rfl ?_); refine goesL_ (some 8) rfl rfl Try.func50 (by kernel_rfl) rfl #[.agg #[.int .i64 aD, .slice aH aC.length aG]] rfl zz4 ?_; (with_reducible refine (impl_GraphOk.calls aD _ _ aC true _ ?side1 ?side2 A2.out).mono ?_); (case side1 => exact zz6); (case side2 => exact bG.out); rintro e w6 ⟨rfl, hb⟩; refine ⟨_, rfl, ?_⟩; have n_ := zA2 (blk_below (g := aE) (o := .cells #[.int .i64 aD, .slice aH aC.length aG] 25 (0, 0)) zz2 hb) (below_step zz0 hb); clear aA HB; obtain ⟨aA, HB⟩ := n_; clear hb))); (go_loopg [3, 4] k (fun kq v3 v4 w' => ∃ (bT : List (List Int)) (aX : Int), v4 = .int .i64 aX ∧ Aside0 (impl_LaplacianOf.l0 kq bT aX aD aC = some r) ∧ Aside0 (kq ≤ k) ∧ Aside0 (Kd.S (Kd.slice 3 (Kd.int .i64)) 26 w' w.heap.size (fun _ => True) v3 bT) ∧ Aside0 (w'.heap[aE]? = some (.cells #[.int .i64 aD, (.slice aH aC.length aG)] 25 (0, 0))) ∧ Aside0 (Below w.heap.size w w'))); case atStart => exact ⟨(([] : List (List Int))), (0), zz5, H', ⟨Nat.le_refl _⟩, ⟨zz52⟩, ⟨zz2⟩, ⟨zz0⟩⟩
 case round =>
  clear H'; (try clear c1); (try clear p2); (try clear c3); (try clear c5); (try clear iC); (try clear iB); (try clear iA); (try clear hY); obtain ⟨bT, aX, rfl, HA, HK1, bC, aA, HB⟩ := hrel
  cases gk with
  | zero => exact absurd HA.out (by simp [impl_LaplacianOf.l0])
  | succ k1 =>
   have H := HA.out; clear HA; simp only [impl_LaplacianOf.l0] at H; by_cases c7 : aX < aD; rotate_left
   ·rw [if_neg c7] at H; have dL := decide_eq_false c7; clear c7; obtain rfl := Option.some.inj H; have qI := zC20 aA; have qH := zC21 aA; have qC := blk_frozen aA.out 0; have qB := blk_frozen aA.out 1; go_wp2; go_ret; exact ⟨_, zz7, by (with_reducible repeat (first | apply Kd.S_alloc | apply Kd.S_drewN | apply Kd.S_drew)); exact bC.out, zz0⟩
   rw [if_pos c7] at H; have dL := decide_eq_true c7; clear c7; by_cases c8 : 0 ≤ aD; rotate_left
   ·rw [if_neg c8] at H; exact absurd H (by simp)
   rw [if_pos c8] at H; have fL := eq_true c8; have sR : decide (0 ≤ aD) = true := decide_eq_true c8; clear c8; by_cases c9 : (aD : Int).toNat ≤ 35184372088832; rotate_left
   ·rw [if_neg c9] at H; exact absurd H (by simp)
   rw [if_pos c9] at H; have fJ := eq_true c9; have pA : decide ((aD : Int).toNat ≤ 35184372088832) = true := decide_eq_true c9; clear c9; obtain ⟨fK, hy_⟩ : ∃ y_ : List Int, y_ = (List.replicate (aD : Int).toNat 0) := ⟨_, rfl⟩; (replace H : (impl_LaplacianOf.l1 k1 bT aX fK (fK.length : Int) 0 aD aC) = some r := zzY); have jZ := zK_ hy_; clear hy_; have H' := zK_ H; clear H; have cN := zC20 aA; have cM := zC21 aA; have cK := blk_frozen aA.out 0; have cJ := blk_frozen aA.out 1; (go_wp2_with (first | ((with_reducible refine gate_dst (N := 18) rfl ?_); refine Kd.R_make (Kd.int .i64) _ 3 rfl (N := 18) rfl 26 _ _ rfl aD rfl rfl Try.underlying26 (.int .i64 0) 8 info3 rfl (by decide) (by omega) 0 (ok := fun _ => True) (okp := fun _ => True) rfl (fun _ hk => hk) trivial (of_decide_eq_true zz3) (Nat.le_trans (Nat.mul_le_mul_right _ (of_decide_eq_true zz3 : aD.toNat ≤ 35184372088832)) (by omega)) (Below.refl _ _) (Nat.le_refl _) ?_; intro v104 w11 ho12 hb hg_ hnew_; clear hg_ hnew_; (first | rw [← jZ.out] at ho12 | (simp only [Int.reduceToNat] at ho12; rw [← jZ.out] at ho12)); have n_ := zA4 (Kd.S_elder' zz44 (Kd.R_base ho12) hb) (Kd.R_lower ho12 (below_size zz0)) (blk_below (g := aE) (o := .cells #[.int .i64 aD, .slice aH aC.length aG] 25 (0, 0)) zz2 hb) (below_step zz0 hb); clear bC aA HB; obtain ⟨bC, eT, aA, HB⟩ := n_; clear hb ho12; obtain ⟨Ao13, co13, rH⟩ := Kd.R_slice eT.out; subst rH))); (go_loopg [21] k1 (fun kq v21 w' => ∃ (bN : List Int) (fX : Int), v21 = .int .i64 fX ∧ Aside0 (impl_LaplacianOf.l1 kq bT aX bN (fK.length : Int) fX aD aC = some r) ∧ Aside0 (kq ≤ k1) ∧ Aside0 (Kd.S (Kd.slice 3 (Kd.int .i64)) 26 w' w.heap.size (fun k_ => some k_ ≠ ((.slice Ao13 fK.length co13) : Value).ownBlock) u3 bT) ∧ Aside0 (Kd.R (Kd.int .i64) 3 w' w.heap.size (fun _ => True) (.slice Ao13 fK.length co13) bN) ∧ Aside0 (w'.heap[aE]? = some (.cells #[.int .i64 aD, (.slice aH aC.length aG)] 25 (0, 0))) ∧ Aside0 (Below w.heap.size w w'))); case atStart => exact ⟨(fK), (0), zz5, H', ⟨Nat.le_refl _⟩, ⟨zz53⟩, ⟨by (with_reducible repeat (first | apply Kd.R_alloc | apply Kd.R_drewN | apply Kd.R_drew)); exact eT.out⟩, ⟨zz2⟩, ⟨zz0⟩⟩
   case round =>
    clear H'; (try clear c1); (try clear p2); (try clear c3); (try clear c5); (try clear c7); (try clear dL); (try clear c8); (try clear fL); (try clear sR); (try clear c9); (try clear fJ); (try clear pA); (try clear cN); (try clear cM); (try clear iC); (try clear iB); (try clear cK); (try clear cJ); (try clear iA); (try clear hY); (try clear p2); obtain ⟨bN, fX, rfl, HA, HK2, bC, bY, aA, HB⟩ := hrel; have fH := (Kd.R_reads' bY.out).1; rw [fH] at bY; (try simp only [fH]); (try simp only [fH] at aA); (try simp only [fH] at bC)
    cases gk with
    | zero => exact absurd HA.out (by simp [impl_LaplacianOf.l1])
    | succ k2 =>
     have H := HA.out; clear HA; simp only [impl_LaplacianOf.l1] at H; by_cases c14 : fX < (fK.length : Int)
     ·rw [if_pos c14] at H; have gE := decide_eq_true c14; (try (have iG := gE; first | rw [fH] at iG | rw [← fH] at iG)); clear c14; obtain ⟨dP, A150, H⟩ := zO_ H; (try dsimp only at H); have A15 := zK_ A150; clear A150; by_cases c16 : 0 ≤ fX; rotate_left
      ·rw [if_neg c16] at H; exact absurd H (by simp)
      rw [if_pos c16] at H; have iE := decide_eq_true c16; clear c16; by_cases c17 : fX < (bN.length : Int); rotate_left
      ·rw [if_neg c17] at H; exact absurd H (by simp)
      rw [if_pos c17] at H; have jN := decide_eq_true c17; (try (have mJ := jN; first | rw [fH] at mJ | rw [← fH] at mJ)); clear c17; obtain ⟨i1, hy_⟩ : ∃ y_ : List Int, y_ = (bN.set (fX : Int).toNat (wrap64 (-dP))) := ⟨_, rfl⟩; (replace H : (impl_LaplacianOf.l1 k2 bT aX i1 (fK.length : Int) (wrap64 (fX + 1)) aD aC) = some r := zzY); have kM := zK_ hy_; clear hy_; have H' := zK_ H; clear H; have jI := zC20 aA; have jH := zC21 aA; have jA := blk_frozen aA.out 0; have i9 := blk_frozen aA.out 1; (go_wp2_with (first | ((with_reducible refine gate_callee (f := 123) rfl ?_); refine goesL_ (some 29) rfl rfl Try.func123 (by kernel_rfl) rfl #[.agg #[.int .i64 aD, .slice aH aC.length aG], .int .i64 aX, .int .i64 fX] rfl zz4 ?_; (with_reducible refine (impl_Multiplicity.calls k2 aD _ _ aC aX fX dP _ ?side1 ?side2 A15.out).mono ?_); (case side1 => exact zz6); (case side2 => exact bG.out); rintro e w20 ⟨rfl, hb⟩; refine ⟨_, rfl, ?_⟩; have n_ := zA4 (Kd.S_below zz44 hb) (Kd.R_below zz23 hb) (blk_below (g := aE) (o := .cells #[.int .i64 aD, .slice aH aC.length aG] 25 (0, 0)) zz2 hb) (below_step zz0 hb); clear bC bY aA HB; obtain ⟨bC, bY, aA, HB⟩ := n_; clear hb; have p18 : 0 ≤ (fX : Int) := of_decide_eq_true zz3; have q18 : (fX : Int) < ((bN.length : Int) : Int) := of_decide_eq_true zz3; obtain ⟨go18, co18, sP, sI, gl18, cl18, HG18⟩ := Kd.R_form bY.out (by omega); (first | cases sP | (injection sP with ea_ en_ ec_; (first | subst ea_ | (injection ea_ with ea_; subst ea_)); subst ec_; clear en_)); have yR := zK_ sI; have BZ := zK_ HG18; clear sI gl18 HG18; obtain ⟨wK, xX⟩ := Kd.R_celln 0 bY.out (fX : Int) p18 q18; replace p18 := eq_true p18; replace q18 := eq_true q18; obtain ⟨hy21_, hz21_⟩ := Kd.R_celln 0 bY.out (fX : Int) (of_decide_eq_true zz3) (of_decide_eq_true zz3); have rO := Kd.R_putg bY.out (fX : Int) (wrap64 (-dP))) | ((with_reducible refine gate_store (t := 3) (p := 31) rfl ?_); refine store_event (t := 3) (p := 31) (v := ?vo_w22) (w1 := (w20.setCell ⟨go18, (fX : Int).toNat, none⟩ (.int .i64 (wrap64 (-dP))))) ?hg ?ho ?hn ?hr ?_; (case ho => rfl); (case hg => rfl); (case hn => rfl); (case hr => exact zz9); intro w22 hw; have hg : w20.grownBy w22 (some go18) := (by rw [hw]; exact rO.2); have hp_ : Kd.R (Kd.int .i64) 3 w22 w.heap.size (fun _ => True) (.slice (some ⟨go18, 0, none⟩) bN.length co13) i1 := (by rw [hw, kM.out]; exact rO.1); clear rO; have n_ := zA4 (Kd.S_after (v := (.slice (some ⟨go18, 0, none⟩) bN.length co13)) (v1 := (.slice (some ⟨go18, 0, none⟩) bN.length co13)) (ok := (fun _ => True)) zz51 hg (.inl rfl)) hp_ (blk_grown (g := aE) (o := .cells #[.int .i64 aD, .slice aH aC.length aG] 25 (0, 0)) zz2 hg (Kd.R_ne bY.out aA.out (by decide))) (by rw [hw]; exact below_set (HB.out) yR.out : Below w.heap.size w w22); clear bC bY aA HB; obtain ⟨bC, bY, aA, HB⟩ := n_; clear hg hw hp_))); (try simp only [← fH]); go_roundg k2; (case measure => have := HK1.out; have := HK2.out; omega); case rel => exact ⟨(i1), (wrap64 (fX + 1)), zz5, H', ⟨zz50⟩, ⟨by (try simp only [fH]); (with_reducible repeat (first | apply Kd.S_alloc | apply Kd.S_drewN | apply Kd.S_drew)); exact Kd.S_mono bC.out (fun _ hk => hk.2)⟩, ⟨by (try simp only [fH]); (with_reducible repeat (first | apply Kd.R_alloc | apply Kd.R_drewN | apply Kd.R_drew)); exact bY.out⟩, ⟨by (try simp only [fH]); (with_reducible repeat (first | refine blk_drewN ?_ _ | refine blk_drew ?_ | refine blk_alloc ?_ _)); exact aA.out⟩, ⟨zz0⟩⟩
     rw [if_neg c14] at H; have gE := decide_eq_false c14; (try (have iG := gE; first | rw [fH] at iG | rw [← fH] at iG)); clear c14; obtain ⟨fN, A230, H⟩ := zO_ H; (try dsimp only at H); have A23 := zK_ A230; clear A230; by_cases c24 : 0 ≤ aX; rotate_left
     ·rw [if_neg c24] at H; exact absurd H (by simp)
     rw [if_pos c24] at H; have pE := decide_eq_true c24; clear c24; by_cases c25 : aX < (bN.length : Int); rotate_left
     ·rw [if_neg c25] at H; exact absurd H (by simp)
     rw [if_pos c25] at H; have tD := decide_eq_true c25; (try (have mG := tD; first | rw [fH] at mG | rw [← fH] at mG)); clear c25; obtain ⟨bZ, hy_⟩ : ∃ y_ : List Int, y_ = (bN.set (aX : Int).toNat fN) := ⟨_, rfl⟩; (replace H : (if bT.length < 5864062014805 then (impl_LaplacianOf.l0 k2 (bT ++ [bZ]) (wrap64 (aX + 1)) aD aC) else (none)) = some r := zzY); have fZ := zK_ hy_; clear hy_; by_cases c27 : bT.length < 5864062014805; rotate_left
     ·rw [if_neg c27] at H; exact absurd H (by simp)
     rw [if_pos c27] at H; have tN := zK_ c27; clear c27; obtain ⟨oE, hy_⟩ : ∃ y_ : List (List Int), y_ = (bT ++ [bZ]) := ⟨_, rfl⟩; (replace H : (impl_LaplacianOf.l0 k2 oE (wrap64 (aX + 1)) aD aC) = some r := zzY); have pN := zK_ hy_; clear hy_; have H' := zK_ H; clear H; have nR := zC20 aA; have nQ := zC21 aA; have nJ := blk_frozen aA.out 0; have nI := blk_frozen aA.out 1; (go_wp2_with (first | ((with_reducible refine gate_callee (f := 75) rfl ?_); refine goesL_ (some 37) rfl rfl Try.func75 (by kernel_rfl) rfl #[.agg #[.int .i64 aD, .slice aH aC.length aG], .int .i64 aX] rfl zz4 ?_; (with_reducible refine (impl_Valence.calls k2 aD _ _ aC aX fN _ ?side1 ?side2 A23.out).mono ?_); (case side1 => exact zz6); (case side2 => exact bG.out); rintro e w29 ⟨rfl, hb⟩; refine ⟨_, rfl, ?_⟩; have n_ := zA4 (Kd.S_below zz44 hb) (Kd.R_below zz23 hb) (blk_below (g := aE) (o := .cells #[.int .i64 aD, .slice aH aC.length aG] 25 (0, 0)) zz2 hb) (below_step zz0 hb); clear bC bY aA HB; obtain ⟨bC, bY, aA, HB⟩ := n_; clear hb; have p26 : 0 ≤ (aX : Int) := of_decide_eq_true zz3; have q26 : (aX : Int) < ((bN.length : Int) : Int) := of_decide_eq_true zz3; obtain ⟨go26, co26, sM, sG, gl26, cl26, HG26⟩ := Kd.R_form bY.out (by omega); (first | cases sM | (injection sM with ea_ en_ ec_; (first | subst ea_ | (injection ea_ with ea_; subst ea_)); subst ec_; clear en_)); have yP := zK_ sG; have BX := zK_ HG26; clear sG gl26 HG26; obtain ⟨wI, xV⟩ := Kd.R_celln 0 bY.out (aX : Int) p26 q26; replace p26 := eq_true p26; replace q26 := eq_true q26; obtain ⟨hy30_, hz30_⟩ := Kd.R_celln 0 bY.out (aX : Int) (of_decide_eq_true zz3) (of_decide_eq_true zz3); have rM := Kd.R_putg bY.out (aX : Int) fN) | ((with_reducible refine gate_store (t := 3) (p := 38) rfl ?_); refine store_event (t := 3) (p := 38) (v := ?vo_w31) (w1 := (w29.setCell ⟨go26, (aX : Int).toNat, none⟩ (.int .i64 fN))) ?hg ?ho ?hn ?hr ?_; (case ho => rfl); (case hg => rfl); (case hn => rfl); (case hr => exact zz9); intro w31 hw; have hg : w29.grownBy w31 (some go26) := (by rw [hw]; exact rM.2); have hp_ : Kd.R (Kd.int .i64) 3 w31 w.heap.size (fun _ => True) (.slice (some ⟨go26, 0, none⟩) bN.length co13) bZ := (by rw [hw, fZ.out]; exact rM.1); clear rM; have n_ := zA4 (Kd.S_after (v := (.slice (some ⟨go26, 0, none⟩) bN.length co13)) (v1 := (.slice (some ⟨go26, 0, none⟩) bN.length co13)) (ok := (fun _ => True)) zz51 hg (.inl rfl)) hp_ (blk_grown (g := aE) (o := .cells #[.int .i64 aD, .slice aH aC.length aG] 25 (0, 0)) zz2 hg (Kd.R_ne bY.out aA.out (by decide))) (by rw [hw]; exact below_set (HB.out) yP.out : Below w.heap.size w w31); clear bC bY aA HB; obtain ⟨bC, bY, aA, HB⟩ := n_; clear hg hw hp_) | ((with_reducible refine gate_builtin (b := .append) (xs := #[.tmp 39, .tmp 41]) rfl ?_); at_builtin; refine Kd.S_append (Kd.slice 3 (Kd.int .i64)) (w0 := w) w.heap.size rfl (.tmp 39) (.tmp 41) 34 26 (.slice none 0 0) 24 rfl Try.underlying34 info26 rfl (by decide) (by omega) u3 bT bZ [.slice (some ⟨go26, 0, none⟩) bN.length co13] (fun _ => True) (fun k_ => some k_ = (.slice (some ⟨go26, 0, none⟩) bN.length co13 : Value).ownBlock) rfl rfl ?aP (fun k_ hk_ => ((Kd.R_mono (ok' := fun k_ => ((fun _ => True)) k_ ∧ some k_ ≠ (u3 : Value).ownBlock) (Kd.R_apart' (bY.out) (Kd.S_typed bC.out) (by decide)) (fun k_ hk => ⟨trivial, hk.2⟩))).1 k_ hk_.symm) ?aF ?aO ?aB ?aS ?aL ?_; (case aP => exact Kd.M_row (Kd.R_mono (Kd.R_tight rfl (Kd.R_mono (ok' := fun k_ => ((fun _ => True)) k_ ∧ some k_ ≠ (u3 : Value).ownBlock) (Kd.R_apart' (bY.out) (Kd.S_typed bC.out) (by decide)) (fun k_ hk => ⟨trivial, hk.2⟩))) (fun _ h_ => h_))); (case aB => exact zz0); (case aF => exact (fun _ _ => trivial)); (case aO => exact (by (with_reducible repeat (first | apply Kd.S_alloc | apply Kd.S_drewN | apply Kd.S_drew)); exact Kd.S_mono bC.out (fun k_ hk => ⟨trivial, fun e_ => hk.2 e_⟩))); (case aS => exact (below_size zz0)); (case aL => have := tN.out; omega); intro v111 w32 ho hb hg hat; rw [← pN.out] at ho; have n_ := zA3 (blk_grown (g := aE) (o := .cells #[.int .i64 aD, .slice aH aC.length aG] 25 (0, 0)) zz2 hg (Kd.S_ne bC.out aA.out (by decide))) hb ho; clear aA HB bC bY; obtain ⟨aA, HB, pT⟩ := n_; clear ho hb hg hat))); (try simp only [← fH]); go_roundg k2; (case measure => have := HK1.out; have := HK2.out; omega); case rel => exact ⟨(oE), (wrap64 (aX + 1)), zz5, H', ⟨zz50⟩, ⟨by (try simp only [fH]); (with_reducible repeat (first | apply Kd.S_alloc | apply Kd.S_drewN | apply Kd.S_drew)); exact pT.out⟩, ⟨by (try simp only [fH]); (with_reducible repeat (first | refine blk_drewN ?_ _ | refine blk_drew ?_ | refine blk_alloc ?_ _)); exact aA.out⟩, ⟨zz0⟩⟩
end Go.Proofs.Ytnbljcgdgblgoaa.P
end

section
namespace Go.Proofs.Ytnbljcgdgblgoaa.Cf
set_option linter.unusedVariables false
set_option linter.unusedSimpArgs false
open Go.RowKit Go.Proofs.YtnbljcgdgblgoaaW.PrintWords Go.Proofs.YtnbljcgdgblgoaaW.PrintLast Go.Proofs.YtnbljcgdgblgoaaW.PrintMore Go.Proofs.Ytnbljcgdgblgoaa.P
theorem step_append_own {P : Program} {ops : Array Oper} {o : Oper} {a : Act} {w : World} {K : Act → World → Prop} {Q : Exit → Act → World → Prop} {E : Prop}
  (hg : o.guard = none) (s x : Operand) (t : TypeId) (hop : o.op = Op.call { callee := Callee.builtin Builtin.append, args := #[s, x], argTypes := #[t, t] })
  (base : Nat) (e : TypeId) (i : TypeInfo) (size : Nat) (h1 : P.underlying t = some (.slice e)) (h2 : P.info? e = some i) (h4 : i.size = size)
  (g n cap : Nat) (xs : List Value) (hs : a.eval s = .slice (some ⟨g, 0, none⟩) n cap) (hown : w.ownsRow base e size (.slice (some ⟨g, 0, none⟩) n cap) n xs)
  (ad : Addr) (m c : Nat) (news : List Value) (hx : a.eval x = .slice (some ad) m c) (hn : news.length = m * size) (hc : ∀ j u, news[j]? = some u → w.cell? (ad.add j) = some u) (h1c : ∀ u ∈ news, u.oneCell' = true)
  (hroom : n + m ≤ cap)
  (hK : ∀ w', w'.ownsRow base e size (.slice (some ⟨g, 0, none⟩) (n + m) cap) (n + m) (xs ++ news) → w.grownBy w' (some g) → K (a.put o.dst (.slice (some ⟨g, 0, none⟩) (n + m) cap)) w') :
  if Region.wanted o (yielded ops a.tmps) = true then Oper.wp P o a w K Q else E := by
 have hw : Region.wanted o (yielded ops a.tmps) = true := by simp [Region.wanted, hg]
 rw [if_pos hw]
 obtain ⟨w', hrun, r1, r2⟩ := run_append_fits (P := P) w base t o.type e i size h1 h2 h4 g n cap xs hown ad m c news hn hc h1c hroom
 unfold Oper.wp
 simp [execOp, hop, resolve, invoke, builtin, hs, hx, hrun, Result.andThen]
 exact hK w' r1 r2
theorem own_tail {base e size n : Nat} {cap g : Nat} {xs : List Value} : ∀ (vs : List Value) (o : Nat) (w : World), w.ownsRow base e size (.slice (some ⟨g, 0, none⟩) n cap) n xs → n * size ≤ o → o + vs.length ≤ cap * size →
  (w.setCells g o vs).ownsRow base e size (.slice (some ⟨g, 0, none⟩) n cap) n xs ∧ w.grownBy (w.setCells g o vs) (some g)
 | [], o, w, h, _, _ => ⟨h, World.grownBy.refl _ _⟩
 | v :: vs, o, w, h, h1, h2 => by
  have h0 : (w.setCell ⟨g, o, none⟩ v).ownsRow base e size (.slice (some ⟨g, 0, none⟩) n cap) n xs := by
   obtain ⟨hl, hr⟩ := h
   refine ⟨hl, ?_⟩
   rcases hr with ⟨hv, _⟩ | ⟨g', cap', cur, hv, hb, hh, hn, hm, hs, ht⟩
   ·cases hv
   ·injection hv with ha _ hc
    injection ha with ha
    injection ha with ha
    subst ha
    subst hc
    refine .inr ⟨g, cap, cur.setIfInBounds o v, rfl, hb, blk_put hh o v rfl, hn, hm, by rw [Array.size_setIfInBounds]; exact hs, ?_⟩
    rw [← ht, Array.toList_setIfInBounds, List.take_set_of_le h1]
  have hg : w.grownBy (w.setCell ⟨g, o, none⟩ v) (some g) := ⟨rfl, rfl, rfl, by simp [World.setCell], fun k _ hk => Below.heap_setCell w ⟨g, o, none⟩ v k (fun e => hk (by rw [e]))⟩
  obtain ⟨h3, h4⟩ := own_tail vs (o + 1) _ h0 (by omega) (by rw [List.length_cons] at h2; omega)
  refine ⟨h3, ⟨h4.os.trans hg.os, h4.tape.trans hg.tape, h4.output.trans hg.output, Nat.le_trans hg.size h4.size, fun k hk hne => ?_⟩⟩
  rw [show w.setCells g o (v :: vs) = (w.setCell ⟨g, o, none⟩ v).setCells g (o + 1) vs from rfl, h4.block k (Nat.lt_of_lt_of_le hk hg.size) hne]
  exact hg.block k hk hne
end Go.Proofs.Ytnbljcgdgblgoaa.Cf
end

section
namespace Go.Proofs.Ytnbljcgdgblgoaa.P
open Go.RowKit Go.Proofs.YtnbljcgdgblgoaaW.PrintWords Go.Proofs.YtnbljcgdgblgoaaW.PrintLast Go.Proofs.YtnbljcgdgblgoaaW.PrintMore
attribute [local go_sem] max2_int min2_int max_two min_two max_three min_three max_four min_four
set_option linter.unusedVariables false
set_option linter.unusedSimpArgs false
def slices_Delete_int_int.f (l0 : List (Int)) (a1 a2 : Int) : Option (List (Int)) := if 0 ≤ a1 then (if a1 < (l0.length : Int) then (if a2 = a1 + 1 then some (l0.eraseIdx a1.toNat) else none) else none) else none
theorem slices_Delete_int_int.clear_ {P : Program} (W : World) {g o c : Nat} {t e ty : TypeId} {cur : Array Value} (ht : P.underlying t = some (.slice e)) (hv : ∀ w, (zeroValue e).run P w = .ok (.int .i64 0) w) (hb : W.heap[g]? = some (.cells cur e (0, 0))) (hl : o + 1 ≤ cur.size) :
  (Builtin.clear_ #[t] ty #[.slice (some ⟨g, o, none⟩) 1 c]).run P W = .ok (.tuple #[]) (W.setCells g o [.int .i64 0]) := by
 have hst := run_storeCells_cells (P := P) g o [.int .i64 0] 0 W (fun j hj => by
  rw [blk_cell hb]; (simp at hj ⊢); omega) (fun j hj => blk_frozen hb _) (by intro v hv'; simp at hv'; rw [hv']; rfl)
 simp only [Nat.add_zero] at hst; (have hz : (Builtin.zeroCells (.int .i64 0 : Value).cells 1).toList = [.int .i64 0] := by simp [Builtin.zeroCells, Value.cells, List.range_succ]); simp [Builtin.clear_, run_underlying ht, hv, hz, hst]
theorem slices_Delete_int_int.calls (P0_ : Nat → Prop) (u9000_ : Value) (l0 : List (Int)) (a1 a2 : Int) (r : List (Int)) (w0 w : World) (hB : Below w0.heap.size w0 w) (ho0 : Kd.R (Kd.int .i64) 3 w w0.heap.size P0_ u9000_ l0) (h : slices_Delete_int_int.f l0 a1 a2 = some r) :
  Calls Try.prog 147 #[u9000_, .int .i64 a1, .int .i64 a2] w fun e w' => ∃ v0_ : Value, e = .returned (v0_) ∧ Kd.R (Kd.int .i64) 3 w' w0.heap.size (fun k_ => (P0_ k_ ∨ w.heap.size ≤ k_)) v0_ r ∧ Below w0.heap.size w0 w' ∧ Kept w w' (fun k_ => P0_ k_) := by
 unfold slices_Delete_int_int.f at h; split at h
 ·split at h
  ·split at h
   ·rename_i h0 h1 h2; subst h2; obtain rfl := Option.some.inj h; obtain ⟨i, rfl⟩ := Int.eq_ofNat_of_zero_le h0; (have hi : i < l0.length := by omega); clear h h0 h1; obtain ⟨hk0, inner, ho, hr⟩ := ho0; have hil : inner.length = l0.length * 1 := ho.1; rcases ho.2 with ⟨hv, hn⟩ | ⟨g, cap, cur, rfl, hbg, hh, hnc, hcm, hcs, htk⟩
    ·omega
    ·obtain ⟨i0, hi0, hz0, hz1, hz2⟩ := info_parts info3; (have hcells : ∀ j u, inner[j]? = some u → w.cell? ⟨g, j, none⟩ = some u := fun j u hu => by have := ho.cells (g := g) rfl j u hu; rwa [add_plain] at this); have hb0 : w0.heap.size ≤ w.heap.size := hB.size; change cur.size = cap * 1 at hcs; change List.take (l0.length * 1) cur.toList = inner at htk; have hk0g : P0_ g := hk0 g rfl; have hoi : w.drew.ownsRow w0.heap.size 3 1 (.slice (some ⟨g, 0, none⟩) i cap) i (inner.take (i * 1)) := ⟨by rw [List.length_take]; omega, .inr ⟨g, cap, cur, rfl, hbg, hh, by omega, hcm, hcs, by rw [← htk, List.take_take, Nat.min_eq_left (by omega)]⟩⟩; obtain ⟨d, hd⟩ : ∃ d, l0.length = i + 1 + d := ⟨l0.length - (i + 1), by omega⟩; rw [hd] at hil hnc htk ⊢; obtain ⟨news, hnews⟩ : ∃ news, news = inner.drop ((i + 1) * 1) := ⟨_, rfl⟩; have hnl : news.length = d * 1 := by rw [hnews, List.length_drop, hil]; omega
     have hn1 : ∀ u ∈ news, u.oneCell' = true := fun u hu => by
      rw [hnews] at hu; exact (Kd.reps_one hr (by decide) (fun p c hp => Kd.K_one (Kd.int .i64) (Kd.K_of_M (Kd.int .i64) hp))) u (List.mem_of_mem_drop hu)
     obtain ⟨A, hA, hsrc⟩ : ∃ A : Addr, (if cap = i + 1 then some (⟨g, 0, none⟩ : Addr) else some ⟨g, i + 1, none⟩) = some A ∧ Hid (∀ t u, news[t]? = some u → w.drew.cell? (A.add t) = some u) := by
      by_cases hq : cap = i + 1
      ·refine ⟨⟨g, 0, none⟩, by simp [hq], fun t u hu => ?_⟩; (have h0 : news.length = 0 := by omega); rw [List.length_eq_zero_iff.1 h0] at hu; simp at hu
      refine ⟨⟨g, i + 1, none⟩, by simp [hq], fun t u hu => ?_⟩; rw [hnews, List.getElem?_drop] at hu; rw [Addr.add_lit]; exact hcells _ _ (by simpa using hu)
     have HD := zK_ hd; clear hi; have HO := zK_ hoi; have HNL := zK_ hnl; have HN1 := zK_ hn1; have HR := zK_ hr; have HNW := zK_ hnews; have HIL := zK_ hil; have HBW := zK_ hB; have HC := zK_ hcs; have HG := zK_ (⟨hbg, hk0g, hcm⟩ : w0.heap.size ≤ g ∧ P0_ g ∧ cap ≤ maxLen); (have hic : i ≤ cap := by omega); (have hjc : i + 1 ≤ cap := by omega); (have hcz : cap ≤ 9223372036854775807 := by have := hcm; unfold maxLen at this; omega); clear hnl hn1 hr hnews hil hB hcs hbg hk0g hcm hh htk ho hcells hk0 hoi hd
     have clr_ : ∀ {W1 : World}, W1.ownsRow w0.heap.size 3 1 (.slice (some ⟨g, 0, none⟩) (i + d) cap) (i + d) (inner.take (i * 1) ++ news) → ∀ ty, (Builtin.clear_ #[26] ty #[.slice (some ⟨g, i + d, none⟩) (i + 1 + d - (i + d)) (cap - (i + d))]).run Try.prog W1 = .ok (.tuple #[]) (W1.setCells g (i + d) [.int .i64 0]) := fun {W1} hO ty => by
      rcases hO.2 with ⟨hv, _⟩ | ⟨g', cap', cur', hv, _, hh', _, _, hs', _⟩
      ·cases hv
      ·injection hv with ha _ hc'; injection ha with ha; injection ha with ha; subst ha; subst hc'; rw [show i + 1 + d - (i + d) = 1 by omega]; exact slices_Delete_int_int.clear_ W1 Try.underlying26 Try.zeroValue3 hh' (by rw [hs']; omega)
     (have hbi0 : (0 : Int) ≤ (i : Int) + 1 := by omega); (have hbi1 : (i : Int) + 1 ≤ (i : Int) + 1 + (d : Int) := by omega); go_enter Try.func147, Try.ntmps147; (go_wp2_with fail); (go_region_law (refine Cf.step_append_own rfl (.tmp 22) (.tmp 25) 26 rfl w0.heap.size 3 i0 1 Try.underlying26 hi0 hz1 g i cap (inner.take (i * 1)) (by simp [Act.eval, Act.put]) HO.out A d (cap - (i + 1)) news (by simp [Act.eval, Act.put]) HNL.out hsrc.out HN1.out (by omega) ?_; intro W1 hO1 hG1; have HO1 := zK_ hO1; have HG1 := zK_ hG1; have hcl := clr_ hO1; obtain ⟨W2, hW2⟩ : ∃ W2, W2 = W1.setCells g (i + d) [.int .i64 0] := ⟨_, rfl⟩; rw [← hW2] at hcl; have HW2 := zK_ hW2; clear hO1 hG1 hW2)); go_wp2; refine bodyPost_ret (v := .slice (some ⟨g, 0, none⟩) (i + d) cap) (by simp [results, Try.results147, go_sem]) rfl ?_; have hO2 := Cf.own_tail [.int .i64 0] (i + d) W1 HO1.out (by omega) (by have := HC.out; simp; omega); rw [← HW2.out] at hO2; have hgr : w.grownBy W2 (some g) := ⟨hO2.2.os.trans HG1.out.os, hO2.2.tape.trans HG1.out.tape, hO2.2.output.trans HG1.out.output, Nat.le_trans HG1.out.size hO2.2.size, fun k hk hne => (hO2.2.block k (Nat.lt_of_lt_of_le hk HG1.out.size) hne).trans (HG1.out.block k hk hne)⟩; (have hel : l0.eraseIdx ((i : Int)).toNat = l0.take i ++ l0.drop (i + 1) := by rw [Int.toNat_natCast, List.eraseIdx_eq_take_drop_succ]); refine ⟨_, rfl, ⟨fun k hk => ?_, ?_⟩, ⟨hgr.os.trans HBW.out.os, hgr.tape.trans HBW.out.tape, hgr.output.trans HBW.out.output, Nat.le_trans HBW.out.size hgr.size, fun k hk => (hgr.block k (Nat.lt_of_lt_of_le hk HBW.out.size) (by have := HG.out.1; simp; omega)).trans (HBW.out.block k hk)⟩, ⟨hgr.size, fun k hk hn => hgr.block k hk (fun e => hn (by injection e with e; rw [e]; exact HG.out.2.1))⟩⟩
     ·(simp [Value.ownBlock] at hk); subst hk; exact .inl HG.out.2.1
     ·(have hlen : (l0.eraseIdx ((i : Int)).toNat).length = i + d := by rw [hel, List.length_append, List.length_take, List.length_drop, HD.out]; omega); refine ⟨inner.take (i * 1) ++ news, by rw [hlen]; exact hO2.1, ?_⟩; rw [hel, HNW.out]; have ht := Kd.reps_take (m := i) HR.out (by rw [HD.out]; omega); have hd2 := Kd.reps_drop (m := i + 1) HR.out; (refine (Kd.reps_append ht hd2).imp_ fun p c hp => ?_); refine Kd.M_mono (Kd.int .i64) (fun k hk => ?_) (Kd.M_step hp (w1 := W2) fun k hk hlt => hgr.block k hlt (fun e => hk.2 (by rw [e]; rfl))); exact ⟨.inl hk.1, fun e => hk.2 (by rw [e]; rfl)⟩
   ·cases h
  ·cases h
 ·cases h
end Go.Proofs.Ytnbljcgdgblgoaa.P
end

