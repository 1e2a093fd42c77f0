/- A part of the proof of FnExactTreesOf. -/
import Derived.Test.YtdfibdjjoplmmaaBFnExactTreesOf2
import Derived.Test.YtdfibdjjoplmmaaBFnExactTreesOf0
import Derived.Deep.LoopGhost
import Derived.Deep.RegionLawGrows
import Derived.Laws.EntriesVeiled
import Derived.Test.YtdfibdjjoplmmaaBFnExactTreesOf1
import Derived.Deep.Slices
import Derived.Lib.SmallJoins
import Derived.ChangeSame
import Derived.Test.YtdfibdjjoplmmaaRows
import Derived.JoinedOf
import Derived.KernelRfl
section
namespace Go.Proofs.Ytdfibdjjoplmmaa.P
open Go.RowKit Go.Proofs.YtdfibdjjoplmmaaW.PrintWords Go.Proofs.YtdfibdjjoplmmaaW.PrintLast Go.Proofs.YtdfibdjjoplmmaaW.PrintMore
attribute [local go_sem] max2_int min2_int max_two min_two max_three min_three max_four min_four
set_option linter.unusedVariables false
set_option linter.unusedSimpArgs false
def impl_TreesOf.T2 : Bool × List (List Nat × List Nat) := (true, [([], []), ([], []), ([1], [1]), ([2], [2]), ([0, 3, 2], [0, 3]), ([4, 4, 0, 1, 2, 3, 4], [4])])
def impl_TreesOf.B2 : List Nat := [0, 0, 2, 6, 15, 31]
theorem impl_TreesOf.tab2 : rtab .any (opsOf Try.f44 2) = impl_TreesOf.T2 := by kernel_rfl
theorem impl_TreesOf.bits2 : waitsOk impl_TreesOf.T2.2 impl_TreesOf.B2 = true := by kernel_rfl
def impl_TreesOf.T6 : Bool × List (List Nat × List Nat) := (true, [([], []), ([], []), ([1], [1]), ([], []), ([], []), ([4], [4]), ([], []), ([6], [6]), ([3, 5, 7], [3, 5, 7]), ([], []), ([9], [9]), ([8, 10], [8, 10]), ([0, 2, 11, 11], [0, 2, 11])])
def impl_TreesOf.B6 : List Nat := [0, 0, 2, 0, 0, 16, 0, 64, 248, 0, 512, 2040, 4095]
theorem impl_TreesOf.tab6 : rtab .any (opsOf Try.f44 6) = impl_TreesOf.T6 := by kernel_rfl
theorem impl_TreesOf.bits6 : waitsOk impl_TreesOf.T6.2 impl_TreesOf.B6 = true := by kernel_rfl
/-- What the closure keeps in memory. -/
structure impl_TreesOf.Inv (n : Nat) (es : List S67) (A0 : Option Addr) (c0 bg bo bp : Nat) (w0 w : World) (ok : Nat → Prop) (vo : Value) (out : List (List Int)) : Prop where
 hb : Below w0.heap.size w0 w
 hg : w.heap[bg]? = some (.cells #[.int .i64 (n : Int), .slice A0 es.length c0] 31 (0, 0))
 ho : w.heap[bo]? = some (.cells #[vo] 26 (0, 0))
 hp : w.heap[bp]? = some (.cells #[.func (.func 44) #[] #[.pointer (some ⟨bg, 0, none⟩), .pointer (some ⟨bo, 0, none⟩), .pointer (some ⟨bp, 0, none⟩)]] 69 (0, 0))
 hs : Kd.S (Kd.slice 3 (Kd.int .i64)) 39 w w0.heap.size ok vo out
 hf : ∀ k, w.heap.size ≤ k → ok k
 nok : ¬ ok bg ∧ ¬ ok bo ∧ ¬ ok bp
theorem impl_TreesOf.Inv.step {n : Nat} {es : List S67} {A0 : Option Addr} {c0 bg bo bp : Nat} {w0 w w1 : World} {ok : Nat → Prop} {vo : Value} {out : List (List Int)} (h : impl_TreesOf.Inv n es A0 c0 bg bo bp w0 w ok vo out) (hb : Below w.heap.size w w1) : impl_TreesOf.Inv n es A0 c0 bg bo bp w0 w1 ok vo out :=
 ⟨below_step h.hb hb, blk_below h.hg hb, blk_below h.ho hb, blk_below h.hp hb, Kd.S_below h.hs hb, fun k hk => h.hf k (Nat.le_trans hb.size hk), h.nok⟩
/-- A slice of a slice with its own length as its room. -/
theorem impl_TreesOf.cut3 {P : Program} (t e : TypeId) {i : TypeInfo} (ht : P.underlying t = some (.slice e)) (hi : P.info? e = some i) (hsz : i.size = 1) (A : Option Addr) (n c : Nat) (hc : n ≤ c) : ∀ W : World, (Instr.slice t (.slice A n c) none (some (.int .i64 (n : Int))) (some (.int .i64 (n : Int)))).run P W = .ok (.slice A n n) W := by
 intro W; (have hel : P.elem t = e := by simp [Program.elem, ht]); (have hu : P.underlying t = some (.slice (P.elem t)) := by rw [hel]; exact ht); (have ha : (A.map fun x => x.add 0) = A := by cases A <;> simp [Addr.add]); rw [run_slice_hm W t A n c hu .i64 .i64 (n : Int) (n : Int) (by omega) (by omega) (by omega), hel]; simp [sizeOf, typeInfo, hi, hsz, sliced, Result.andThen, ha]
set_option maxHeartbeats 8000000 in
set_option maxRecDepth 1000000 in
theorem impl_TreesOf.pick (k n : Nat) (A0 : Option Addr) (c0 : Nat) (es : List S67) (bg bo bp : Nat) (w0 : World) (hn : n ≤ 6) (hel : es.length ≤ 12) (hE : Kd.C k67 w0 A0 es.length es) (hc0 : es.length ≤ c0) (hbo : w0.heap.size ≤ bo) (hne : bg ≠ bo ∧ bp ≠ bo) :
  ∀ (c : Nat) (s : List Int) (ok : Nat → Prop) (As : Option Addr) (cs : Nat) (vo : Value) (out : List (List Int)) (w : World), s.length + c + 1 = n → Cf.fstS s ≤ es.length → (∀ t ∈ Cf.pickS es.length c s, ∃ b, impl_IsTree.f k (n : Int) es t = some b) → Kd.C (Kd.int .i64) w As s.length s → s.length ≤ cs → (As = none → s.length = 0 ∧ cs = 0) → (∀ ad, As = some ad → ¬ (ok ad.block ∨ ad.block = bo)) → impl_TreesOf.Inv n es A0 c0 bg bo bp w0 w ok vo out → out.length + (Cf.pickS es.length c s).length ≤ 4000000 →
  Calls Try.prog 44 #[.int .i64 (Cf.fstS s : Int), .slice As s.length cs, .pointer (some ⟨bg, 0, none⟩), .pointer (some ⟨bo, 0, none⟩), .pointer (some ⟨bp, 0, none⟩)] w fun e w' => (∃ v, e = .returned v) ∧ (∃ vo', impl_TreesOf.Inv n es A0 c0 bg bo bp w0 w' ok vo' (out ++ Cf.pickF es.length (fun t => impl_IsTree.f k (n : Int) es t == some true) c s)) ∧ Kept w w' (fun k_ => ok k_ ∨ k_ = bo) := by
 have hu31 := Try.underlying31; have HE := Aside0.mk hE; have HC := Aside0.mk hc0; have HN := Aside0.mk hn; have HEL := Aside0.mk hel; have HBO := Aside0.mk hbo; have HNE := Aside0.mk hne; clear hE hc0 hn hel hbo hne; intro c
 induction c with
 | zero =>
  intro s ok As cs vo out w hlen hfs hans hC hcs hnil hblk hI hL; have hans0 := hans; clear hans; obtain ⟨b, hans⟩ := hans0 s (by simp [Cf.pickS]); rw [Cf.pickF_zero es.length (fun t => impl_IsTree.f k (n : Int) es t == some true) s]; have HA := Aside0.mk hans; have HI := Aside0.mk hI; have HCS := Aside0.mk hC; have HCC := Aside0.mk hcs; have HBL := Aside0.mk hblk; have HL := Aside0.mk hL; (have e1 : wrap64 ((n : Int) - 1) = (s.length : Int) := by have := HN.out; unfold wrap64; omega); have e1w : IntKind.i64.wrap ((n : Int) - 1) = (s.length : Int) := (i64_w _).trans e1; have hz0 : w.cell? ⟨bg, 0, none⟩ = some (.int .i64 (n : Int)) := (blk_cell hI.hg 0).trans rfl; have hz1 : w.cell? ⟨bg, 1, none⟩ = some (.slice A0 es.length c0) := (blk_cell hI.hg 1).trans rfl; have HLEN := Aside0.mk hlen; (have hpf : (if (impl_IsTree.f k (n : Int) es s == some true) = true then [s] else []) = (if b = true then [s] else []) := by rw [HA.out]; cases b <;> rfl); rw [hpf]; clear hans hans0 hI hC hcs hblk hL hfs hnil hlen hpf; go_enter Try.func44, Try.ntmps44; (go_wp2_with fail); refine (impl_IsTree.calls k (n : Int) _ _ es _ _ s b _ (Kd.C_below HE.out HI.out.hb) HC.out HCS.out HCC.out HA.out).mono ?_; rintro e w1 ⟨rfl, hb⟩; have HI1 := Aside0.mk (HI.out.step hb); have HB1 := Aside0.mk hb; clear hb hz0 hz1
  cases b with
  | false =>
   go_wp2; (first | go_end0 | ((try simp only [Exit.inBlock, Exit.then]); refine bodyPost_ret (results_none rfl _ _ _) rfl ?_)); exact ⟨⟨_, rfl⟩, ⟨vo, by simpa using HI1.out⟩, Kept.of_below HB1.out _⟩
  | true =>
   obtain ⟨Ao, co, eo⟩ := Kd.S_slice HI1.out.hs; subst eo; have HK1 := Aside0.mk (Kept.of_below HB1.out (fun k_ => ok k_ ∨ k_ = bo)); (try go_wp2); refine start_ (n := 6) (S := fun w' => w'.cell? ⟨bo, 0, none⟩ = some (.slice Ao out.length co)) (ds := [5]) (zM 6 0) (by kernel_rfl) rfl rfl ((blk_cell HI1.out.ho 0).trans rfl) (fun hHeld => ?_); refine with_tabW impl_TreesOf.tab2 impl_TreesOf.bits2 (fun HT_ HW_ => ?_); have HI2 := Aside0.mk (HI1.out.step (below_drew (Below.refl _ _))); have HK2 := Aside0.mk (HK1.out.drew); have HCS2 := Aside0.mk (Kd.C_below (Kd.C_below HCS.out HB1.out) (below_drew (Below.refl _ _))); generalize w1.drew = wd at HI2 HK2 HCS2 hHeld ⊢; clear HI1 HK1 HB1 HCS; refine zQ 1 18 (zM 6 2) ?_
   refine take_ (i := 0) (N := some 17) (v := ?_) (a' := ?_) (zM 6 3) rfl rfl (take_ofW HT_.out HW_.out (by kernel_rfl)) (fun _ _ _ h => h) (Or.inl ⟨by rfl, ?_⟩) hHeld ?_ ?_; rotate_left
   ·rintro w' s0; exact zzT
   rotate_left
   ·exact zzS
   refine one_ (i := 2) (N := some 19) (zM 6 7) rfl rfl (one_of HT_.out (by kernel_rfl)) (by decide) (fun K hK => ?_); refine goes_ Try.func34 (by kernel_rfl) rfl #[.slice As s.length cs] (by rfl) rfl rfl (by (try simp only [List.map_toArray, List.map_cons, List.map_nil]); first | done | rfl) ?_; refine (impl_copyInts.calls _ _ s s _ HCS2.out HCC.out ?cp).mono ?_; (case cp => unfold impl_copyInts.f; rw [if_pos (by have := HCS2.out.2.1; have := HN.out; have := HLEN.out; simp only [List.length_nil]; omega)]; rfl); rintro e w2 ⟨v0, rfl, hR, hb⟩; refine ⟨_, rfl, ?_⟩; have HI3 := Aside0.mk (HI2.out.step hb); have HK3 := Aside0.mk (HK2.out.below hb); have HO := Aside0.mk (Kd.S_mono (Kd.S_below (Kd.S_bound HI2.out.hs) hb) (ok' := fun k_ => ok k_ ∧ ¬ wd.heap.size ≤ k_) fun k_ hk => ⟨hk.1, by have := hk.2.2.1; omega⟩); obtain ⟨Ad, cd, ed⟩ := Kd.R_slice hR; subst ed; have HD := Aside0.mk (Kd.R_mono (Kd.R_bound hR) (ok' := fun k_ => wd.heap.size ≤ k_) fun k_ hk => hk.2.1); have HB3 := Aside0.mk hb; clear hR hb; refine hK.out _ _ ((blk_cell HI3.out.ho 0).trans rfl) (fun hHeld => ?_); clear hK K; refine norm_ (a' := ?_) ?_ ?_; rotate_left
   ·show Act.put _ (some 19) _ = _; exact zzS
   refine one_ (i := 3) (N := some 20) (zM 6 15) rfl rfl (one_of HT_.out (by kernel_rfl)) (by decide) (fun K hK => ?_); refine value_ (w1 := ?_) (v := ?_) (by rfl) rfl ?_ ?_; rotate_left 2
   ·go_simp; constructor
    ·rfl
    ·rfl
   refine hK.out _ _ ((blk_cell (blk_alloc HI3.out.ho _) 0).trans rfl) (fun hHeld => ?_); clear hK K; refine norm_ (a' := ?_) ?_ ?_; rotate_left
   ·show Act.put _ (some 20) _ = _; exact zzS
   refine one_ (i := 4) (N := some 21) (zM 6 31) rfl rfl (one_of HT_.out (by kernel_rfl)) (by decide) (fun K hK => ?_); refine Kd.S_append_step (Kd.slice 3 (Kd.int .i64)) (w0 := w0) w0.heap.size (by rfl) (.tmp 17) (.tmp 20) 26 39 (.slice none 0 0) 24 rfl Try.underlying26 info39 rfl (by decide) (by omega) (.slice Ao out.length co) out s [.slice Ad s.length cd] ok (fun k_ => wd.heap.size ≤ k_) rfl rfl (Kd.M_row (Kd.R_lower HD.out (below_size HI2.out.hb))) ?aK HI3.out.hf HO.out HI3.out.hb (below_size HI3.out.hb) ?aL ?_; (case aK => exact fun k_ hk => ⟨HI2.out.hf k_ hk, fun e => by have := Kd.S_lt HI2.out.hs k_ e.symm; omega⟩); (case aL => have := HL.out; omega); intro vE wE hoE hbE hgE hat_; obtain ⟨AE, cE, eE⟩ := Kd.S_slice hoE; subst eE; rw [show (out ++ [s]).length = out.length + 1 from List.length_append] at hoE; have hOW := HI3.out.hs.choose_spec.1; have HG4 := Aside0.mk (blk_grown HI3.out.hg hgE (fun e => HI3.out.nok.1 (hOW _ e.symm))); have HP4 := Aside0.mk (blk_grown HI3.out.hp hgE (fun e => HI3.out.nok.2.2 (hOW _ e.symm))); have HO4 := Aside0.mk (blk_grown HI3.out.ho hgE (fun e => HI3.out.nok.2.1 (hOW _ e.symm))); have HK4 := Aside0.mk (Kept.of_grown hgE HK3.out (fun k_ e => .inl (.inl (hOW k_ e)))); have HOE := Aside0.mk hoE; have HBE := Aside0.mk hbE; clear hoE hbE hgE hat_ hOW; refine hK.out _ _ ((blk_cell HO4.out 0).trans rfl) (fun hHeld => ?_); clear hK K; refine norm_ (a' := ?_) ?_ ?_; rotate_left
   ·show Act.put _ (some 21) _ = _; exact zzS
   have hz8 : wE.cell? ⟨bo, 0, none⟩ = some (.slice Ao out.length co) := (blk_cell HO4.out 0).trans rfl; have hfz := blk_frozen HO4.out 0; refine last_ (i := 5) (N := none) (zM 6 63) rfl rfl (one_of HT_.out (by kernel_rfl)) (by decide) (fun K hK => ?_); refine skip_ (w1 := ?_) (by rfl) rfl ?_ ?_; rotate_left
   ·go_simp; rfl
   refine hK.out _ _ ?_; clear hK K; refine done_ (done_of HT_.out (by kernel_rfl)) ?_; (try go_wp2); (first | go_end0 | ((try simp only [Exit.inBlock, Exit.then]); refine bodyPost_ret (results_none rfl _ _ _) rfl ?_)); have HKE := Kept.setCell HK4.out (p := ⟨bo, 0, none⟩) (.inl (.inr rfl)) (.slice AE (out.length + 1) cE); exact ⟨⟨_, rfl⟩, ⟨.slice AE (out.length + 1) cE, ⟨below_set HBE.out HBO.out, blk_far HG4.out HNE.out.1 _, blk_set HO4.out 0 _, blk_far HP4.out HNE.out.2 _, Kd.S_far HOE.out (fun k_ hk e => HI3.out.nok.2.1 (by have e2 : k_ = bo := e; rw [← e2]; exact hk)) _, fun k_ hk => HI.out.hf k_ (Nat.le_trans HKE.1 hk), HI.out.nok⟩⟩, HKE⟩
 | succ c ih =>
  intro s ok As cs vo out w hlen hfs hans hC hcs hnil hblk hI hL; have IH := Aside0.mk ih; have HLEN := Aside0.mk hlen; have HANS := Aside0.mk hans; have HI := Aside0.mk hI; have HCS := Aside0.mk hC; have HCC := Aside0.mk hcs; have HNIL := Aside0.mk hnil; have HBL := Aside0.mk hblk; have HL := Aside0.mk hL; have HFS := Aside0.mk hfs; obtain ⟨n1, e1⟩ : ∃ x : Int, wrap64 ((n : Int) - 1) = x := ⟨_, rfl⟩; have e1w : IntKind.i64.wrap ((n : Int) - 1) = n1 := (i64_w _).trans e1; have HN1 := Aside0.mk (show (s.length : Int) < n1 from by have := HLEN.out; have := HN.out; rw [← e1]; unfold wrap64; omega); (have d0 : ((s.length : Int) == n1) = false := by have := HN1.out; simp; omega); (have d1 : decide ((s.length : Int) = n1) = false := by have := HN1.out; simp; omega); have hz0 : w.cell? ⟨bg, 0, none⟩ = some (.int .i64 (n : Int)) := (blk_cell hI.hg 0).trans rfl; (have hsb : (s.length : Int) ≤ 6 := by have := HLEN.out; have := HN.out; omega); clear ih hans hI hC hcs hblk hL hfs hnil hlen; go_enter Try.func44, Try.ntmps44; (try go_wp2); (go_loopw [7] (fun v7 wr => ∃ (j : Nat) (vr : Value), v7 = .int .i64 (j : Int) ∧ Aside0 (Cf.fstS s ≤ j ∧ j ≤ es.length) ∧ Aside0 (impl_TreesOf.Inv n es A0 c0 bg bo bp w0 wr ok vr (out ++ Cf.pickJ es.length (fun t => impl_IsTree.f k (n : Int) es t == some true) c s j)) ∧ Aside0 (Kept w wr (fun k_ => ok k_ ∨ k_ = bo))) (fun v _ => es.length - (intOf v).toNat)); case atStart => exact ⟨Cf.fstS s, vo, rfl, ⟨Nat.le_refl _, HFS.out⟩, ⟨by rw [Cf.pickJ_start, List.append_nil]; exact HI.out⟩, ⟨Kept.refl _ _⟩⟩
  case round =>
   obtain ⟨j, vr, rfl, HJ, HIr, HKr⟩ := hrel; have hz1 : wr.cell? ⟨bg, 1, none⟩ = some (.slice A0 es.length c0) := (blk_cell HIr.out.hg 1).trans rfl; (have hjb : (j : Int) ≤ 12 := by have := HJ.out; have := HEL.out; omega); by_cases hlt : j < es.length
   ·have c1 : decide ((j : Int) < (es.length : Int)) = true := decide_eq_true (by omega); have c2 : decide (j < es.length) = true := decide_eq_true hlt; have HLT := Aside0.mk hlt; obtain ⟨jn, ej⟩ : ∃ x : Int, wrap64 ((j : Int) + 1) = x := ⟨_, rfl⟩; have ejw : IntKind.i64.wrap ((j : Int) + 1) = jn := (i64_w _).trans ej; have HJN := Aside0.mk (show jn = ((j + 1 : Nat) : Int) from by rw [← ej]; unfold wrap64; omega); clear hlt; (try go_wp2); refine start_ (n := 13) (S := fun w' => w'.cell? ⟨bp, 0, none⟩ = some (.func (.func 44) #[] #[.pointer (some ⟨bg, 0, none⟩), .pointer (some ⟨bo, 0, none⟩), .pointer (some ⟨bp, 0, none⟩)])) (ds := []) (zM 13 0) (by kernel_rfl) rfl rfl ((blk_cell HIr.out.hp 0).trans rfl) (fun hHeld => ?_); refine with_tabW impl_TreesOf.tab6 impl_TreesOf.bits6 (fun HT_ HW_ => ?_); have HI2 := Aside0.mk (HIr.out.step (below_drew (Below.refl _ _))); have HK2 := Aside0.mk (HKr.out.drew); generalize wr.drew = wd at HI2 HK2 hHeld ⊢; have HC2 := Aside0.mk (Kd.C_foot_neS (S := fun k_ => ok k_ ∨ k_ = bo) (fun h => h) HCS.out (fun ad e _ => HBL.out ad e) wd HK2.out); obtain ⟨it, hit, hzt, hszt, hbt⟩ := info_parts info3; have hcut := impl_TreesOf.cut3 (P := Try.prog) 39 3 Try.underlying39 hit hszt As s.length cs HCC.out; clear hz1 HIr HKr; refine zQ 1 31 (zM 13 2) ?_
    refine zQ 2 32 (zM 13 6) ?_
    refine zQ 3 33 (zM 13 14) ?_
    refine zQ 4 34 (zM 13 30) ?_
    refine zQ 5 35 (zM 13 62) ?_
    refine zQ 6 36 (zM 13 126) ?_
    refine zQ 7 37 (zM 13 254) ?_
    refine zQ 8 38 (zM 13 510) ?_
    refine zQ 9 39 (zM 13 1022) ?_
    refine take_ (i := 0) (N := some 30) (v := ?_) (a' := ?_) (zM 13 1023) rfl rfl (take_ofW HT_.out HW_.out (by kernel_rfl)) (fun _ _ _ h => h) (Or.inl ⟨by rfl, ?_⟩) hHeld ?_ ?_; rotate_left
    ·rintro w' s0; exact zzT
    rotate_left
    ·exact zzS
    refine one_ (i := 10) (N := some 40) (zM 13 2047) rfl rfl (one_of HT_.out (by kernel_rfl)) (by decide) (fun K hK => ?_); refine value_ (w1 := ?_) (v := ?_) (by rfl) rfl ?_ ?_; rotate_left 2
    ·go_simp; constructor
     ·rfl
     ·rfl
    have HB3 := Aside0.mk (below_alloc (Below.refl wd.heap.size wd) (.cells #[.int .i64 (j : Int)] 3)); have BKn := Aside0.mk (blk_new wd (.cells #[.int .i64 (j : Int)] 3)); refine hK.out _ _ ((blk_cell (HI2.out.step HB3.out).hp 0).trans rfl) (fun hHeld => ?_); clear hK K; refine norm_ (a' := ?_) ?_ ?_; rotate_left
    ·show Act.put _ (some 40) _ = _; exact zzS
    refine one_ (i := 11) (N := some 41) (zM 13 4095) rfl rfl (one_of HT_.out (by kernel_rfl)) (by decide) (fun K hK => ?_); have hrd := Kd.reads_of_C (d := (0 : Int)) HC2.out; refine step_append_grows (by rfl) (.tmp 38) (.tmp 40) 39 rfl 3 it (.int .i64 0) 1 8 Try.underlying39 hit hzt hszt hbt rfl (by decide) As s.length s.length (s.map (Value.int .i64)) rfl (fun e => ⟨(HNIL.out e).1, (HNIL.out e).1⟩) (by rw [List.length_map, Nat.mul_one]) ?hol ⟨wd.heap.size, 0, none⟩ 1 1 [.int .i64 (j : Int)] rfl rfl ?hcc ?h1c (Nat.lt_succ_self _) (by have := hsb; unfold maxLen; omega) (by have := hsb; omega) ?_
    case hol =>
     intro b_ eb_ j_ u_ hu_; (have hl : j_ < s.length := by have h_ := (List.getElem?_eq_some_iff.1 hu_).1; rwa [List.length_map] at h_); obtain ⟨ad, ea, hc⟩ := hrd.2.2 (by omega); obtain rfl : ad = b_ := Option.some.inj (ea.symm.trans eb_); have h_ := hc j_ hl; rw [List.getElem?_map, List.getElem?_eq_getElem hl] at hu_; rw [List.getD_eq_getElem?_getD, List.getElem?_eq_getElem hl] at h_; exact ((World.cell?_alloc_lt _ _ _ (World.block_lt_of_cell? _ _ h_)).trans h_).trans hu_
    case hcc =>
     intro j_ u_ hu_
     cases j_ with
     | zero => exact ((blk_cell BKn.out 0).trans rfl).trans hu_
     | succ j_ => exact absurd hu_ (by simp)
    (case h1c => intro u_ hu_; rw [List.mem_singleton] at hu_; subst hu_; rfl); intro vE wE hoE hgE; have hR : Kd.R (Kd.int .i64) 3 wE (wd.alloc (.cells #[.int .i64 (j : Int)] 3)).heap.size (fun _ => True) vE (s ++ [(j : Int)]) := Kd.R_of_own (by rw [List.length_append]; unfold encs; rw [List.map_append]; exact hoE) (fun _ _ => trivial); obtain ⟨g, cg, eg, hg1, hg2, _⟩ := Kd.R_form hR (by simp); subst eg; have HB4 := Aside0.mk (below_step HB3.out ((Below.refl _ _).grown hgE (Nat.le_refl _) (fun k_ e => by cases e))); have HRR := Aside0.mk (Kd.R_reads' hR); have HGG := Aside0.mk (show wd.heap.size ≤ g ∧ g < wE.heap.size from ⟨Nat.le_trans HB3.out.size hg1, hg2⟩); have HI4 := Aside0.mk (HI2.out.step HB4.out); have HZ := Aside0.mk (show bo < wd.heap.size from blk_lt HI2.out.ho); have HS4 := Aside0.mk (Kd.S_mono (Kd.S_below (Kd.S_bound HI2.out.hs) HB4.out) (ok' := fun k_ => ok k_ ∧ k_ ≠ g) fun k_ hk => ⟨hk.1, by have := hk.2.2.1; have := HGG.out.1; omega⟩); have HK4 := Aside0.mk (HK2.out.below HB4.out); clear hoE hgE hR hg1 hg2 HB3 BKn hrd hcut; refine hK.out _ _ ((blk_cell HI4.out.hp 0).trans rfl) (fun hHeld => ?_); clear hK K; refine norm_ (a' := ?_) ?_ ?_; rotate_left
    ·show Act.put _ (some 41) _ = _; exact zzS
    refine one_ (i := 12) (N := some 42) (zM 13 8191) rfl rfl (one_of HT_.out (by kernel_rfl)) (by decide) (fun K hK => ?_); have he := enters_ (P := Try.prog) Try.func44 (by kernel_rfl) rfl #[.int .i64 jn, .slice (some ⟨g, 0, none⟩) (s ++ [(j : Int)]).length cg, .pointer (some ⟨bg, 0, none⟩), .pointer (some ⟨bo, 0, none⟩), .pointer (some ⟨bp, 0, none⟩)] wE; refine call_ 44 #[.int .i64 jn, .slice (some ⟨g, 0, none⟩) (s ++ [(j : Int)]).length cg, .pointer (some ⟨bg, 0, none⟩), .pointer (some ⟨bo, 0, none⟩), .pointer (some ⟨bp, 0, none⟩)] (by rfl) rfl ?hrun ?_
    case hrun =>
     unfold execOp; simp [resolve, Deferred.ofValue, invoke, Act.eval]
    have h_ := IH.out (s ++ [(j : Int)]) (fun k_ => ok k_ ∧ k_ ≠ g) (some ⟨g, 0, none⟩) cg vr _ wE ?i1 ?i2 ?i3 HRR.out.2.2 HRR.out.2.1 (fun e => by cases e) ?i7 ⟨HI4.out.hb, HI4.out.hg, HI4.out.ho, HI4.out.hp, HS4.out, fun k_ hk => ⟨HI4.out.hf k_ hk, by have := HGG.out.2; omega⟩, fun h => HI.out.nok.1 h.1, fun h => HI.out.nok.2.1 h.1, fun h => HI.out.nok.2.2 h.1⟩ ?i9; (case i1 => have := HLEN.out; rw [List.length_append]; simp only [List.length_cons, List.length_nil]; omega); (case i2 => rw [Cf.fstS_snoc]; exact HLT.out); case i3 => exact fun t ht => HANS.out t (Cf.pickS_sub _ _ _ HJ.out.1 HLT.out ht)
    case i7 =>
     intro ad e h; obtain rfl := Option.some.inj e; rcases h with h | h
     ·exact h.2 rfl
     ·have h2 : g = bo := h; have := HGG.out.1; have := HZ.out; omega
    (case i9 => have h2 := Cf.pickJ_len es.length (fun t => impl_IsTree.f k (n : Int) es t == some true) c s HJ.out.1 HLT.out; have := HL.out; rw [List.length_append]; omega); rw [Cf.fstS_snoc, ← HJN.out] at h_; refine h_.mono ?_; rintro e w5 ⟨⟨v, rfl⟩, ⟨vo5, hI5⟩, hk5⟩; have HI5 := Aside0.mk hI5; have HK5 := Aside0.mk (HK4.out.then_ hk5 (fun k_ h => .inl (h.imp And.left id))); clear hI5 hk5 h_ he; refine ⟨_, rfl, ?_⟩; refine hK.out _ _ ((blk_cell HI5.out.hp 0).trans rfl) (fun hHeld => ?_); clear hK K; refine norm_ (a' := ?_) ?_ ?_; rotate_left
    ·show Act.put _ (some 42) _ = _; exact zzS
    refine done_ (done_of HT_.out (by kernel_rfl)) ?_; (try go_wp2); go_roundw
    case rel =>
     refine ⟨j + 1, vo5, by rw [HJN.out], ⟨by have := HJ.out; omega, HLT.out⟩, ⟨HI5.out.hb, HI5.out.hg, HI5.out.ho, HI5.out.hp, ?_, fun k_ hk => HI.out.hf k_ (Nat.le_trans HK5.out.1 hk), HI.out.nok⟩, HK5⟩; rw [Cf.pickJ_succ _ _ _ _ HJ.out.1, ← List.append_assoc]; exact Kd.S_mono HI5.out.hs (fun k_ h => h.1)
    case measure =>
     have := HLT.out; have := HJN.out; (simp [intOf]); omega
   ·have c1 : decide ((j : Int) < (es.length : Int)) = false := decide_eq_false (by omega); have c2 : decide (j < es.length) = false := decide_eq_false hlt; (have hjn : j = es.length := by have := HJ.out; omega); clear hlt; go_wp2; (first | go_end0 | ((try simp only [Exit.inBlock, Exit.then]); refine bodyPost_ret (results_none rfl _ _ _) rfl ?_)); exact ⟨⟨_, rfl⟩, ⟨vr, by have h_ := HIr.out; rw [hjn, Cf.pickJ_all] at h_; exact h_⟩, HKr.out⟩
abbrev impl_TreesOf.ok (k : Nat) (a0_0 : Int) (l0_1 : List S67) : Prop := (1 ≤ a0_0 ∧ a0_0 ≤ 6) ∧ l0_1.length ≤ 12 ∧ ∀ s ∈ Cf.setsN l0_1.length (a0_0.toNat - 1), (impl_IsTree.f k a0_0 l0_1 s).isSome = true
def impl_TreesOf.f (k : Nat) (a0_0 : Int) (l0_1 : List S67) : Option (List (List Int) × Bool) :=
 (impl_GraphOk.f a0_0 l0_1).bind fun t => if t = true then (impl_CountTrees.f k a0_0 l0_1).bind fun c => if c ≤ 400 then (if impl_TreesOf.ok k a0_0 l0_1 then some ((Cf.setsN l0_1.length (a0_0.toNat - 1)).filter (fun t => impl_IsTree.f k a0_0 l0_1 t == some true), true) else none) else some ([], false) else some ([], false)
theorem impl_TreesOf.mono : ∀ a0 a1 k, LeO (impl_TreesOf.f k a0 a1) (impl_TreesOf.f (k + 1) a0 a1) := by
 intro a0 a1 k; unfold impl_TreesOf.f; (refine LeO.bind (LeO.refl _) fun t => LeO.ite (LeO.bind (impl_CountTrees.mono _ _ k) fun c => LeO.ite ?_ (LeO.refl _)) (LeO.refl _)); intro r h; by_cases hc : impl_TreesOf.ok k a0 a1; rotate_left
 ·rw [if_neg hc] at h; cases h
 rw [if_pos hc] at h; have h1 : impl_TreesOf.ok (k + 1) a0 a1 := ⟨hc.1, hc.2.1, fun s hs => by obtain ⟨b, hb⟩ := Option.isSome_iff_exists.1 (hc.2.2 s hs); rw [impl_IsTree.mono _ _ _ k _ hb]; rfl⟩; rw [if_pos h1, ← h]; (congr 2); (refine List.filter_congr fun s hs => ?_); obtain ⟨b, hb⟩ := Option.isSome_iff_exists.1 (hc.2.2 s hs); rw [hb, impl_IsTree.mono _ _ _ k _ hb]
set_option maxHeartbeats 8000000 in
set_option maxRecDepth 1000000 in
theorem impl_TreesOf.calls (k : Nat) (a0_0 : Int) (A0_1 : Option Addr) (c0_1 : Nat) (l0_1 : List S67) (r1 : List (List Int)) (r2 : Bool) (w : World) (hr0_1 : Kd.C k67 w A0_1 l0_1.length l0_1) (hc0_1 : l0_1.length ≤ c0_1) (h : impl_TreesOf.f k a0_0 l0_1 = some (r1, r2)) :
  Calls Try.prog 17 #[.agg #[.int .i64 a0_0, .slice A0_1 l0_1.length c0_1]] w fun e w' => ∃ v0_ : Value, e = .returned (.tuple #[v0_, .bool r2]) ∧ Kd.S (Kd.slice 3 (Kd.int .i64)) 39 w' w.heap.size (fun _ => True) v0_ r1 ∧ Below w.heap.size w w' := by
 have hu31 := Try.underlying31; have HE := Aside0.mk hr0_1; have HC := Aside0.mk hc0_1; clear hr0_1 hc0_1; unfold impl_TreesOf.f at h; replace h := Option.bind_eq_some_iff.mp h; obtain ⟨t, ht, h⟩ := h; have HTT := Aside0.mk ht; clear ht; have hmf : ∀ (fn : Fn) (first cap : Array Value) (w : World), (Instr.makeFunc fn first cap).run Try.prog w = .ok (.func fn first cap) w := fun _ _ _ _ => rfl
 cases t with
 | false =>
  rw [if_neg (by simp)] at h; obtain ⟨rfl, rfl⟩ := Prod.mk.inj (Option.some.inj h); clear h; go_enter Try.func17, Try.ntmps17; (go_wp2_with (first | ((with_reducible refine gate_dst (N := 1) rfl ?_); refine box_event ?hg (N := 1) ?hd (cs := #[.int .i64 a0_0, .slice A0_1 l0_1.length c0_1]) (t := 31) ?hr ?_; (case hd => rfl); (case hg => rfl); (case hr => exact zz11); intro gg hg w1 hbox hb; have BG1 := Aside0.mk hbox; have HGG := Aside0.mk hg; have HB1 := Aside0.mk hb; have hz0 : w1.cell? ⟨gg, 0, none⟩ = some (.int .i64 a0_0) := (blk_cell BG1.out 0).trans rfl; have hz1 : w1.cell? ⟨gg, 1, none⟩ = some (.slice A0_1 l0_1.length c0_1) := (blk_cell BG1.out 1).trans rfl; clear hg hbox hb))); refine (impl_GraphOk.calls a0_0 _ _ l0_1 false _ (Kd.C_below HE.out HB1.out) HC.out HTT.out).mono ?_; rintro e w2 ⟨rfl, hb⟩; have BG2 := Aside0.mk (blk_below BG1.out hb); have HB2 := Aside0.mk (below_step HB1.out hb); clear hb hz0 hz1; go_wp2; (go_ret2); exact ⟨_, rfl, Kd.S_nil _ _ _ _ _, HB2.out⟩
 | true =>
  rw [if_pos rfl] at h; replace h := Option.bind_eq_some_iff.mp h; obtain ⟨c, hc, h⟩ := h; have HCT := Aside0.mk hc; clear hc; by_cases hle : c ≤ 400; rotate_left
  ·rw [if_neg hle] at h; obtain ⟨rfl, rfl⟩ := Prod.mk.inj (Option.some.inj h); clear h; have d0 : decide (c > 400) = true := decide_eq_true (by omega); have d1 : decide (400 < c) = true := decide_eq_true (by omega); go_enter Try.func17, Try.ntmps17; (go_wp2_with (first | ((with_reducible refine gate_dst (N := 1) rfl ?_); refine box_event ?hg (N := 1) ?hd (cs := #[.int .i64 a0_0, .slice A0_1 l0_1.length c0_1]) (t := 31) ?hr ?_; (case hd => rfl); (case hg => rfl); (case hr => exact zz11); intro gg hg w1 hbox hb; have BG1 := Aside0.mk hbox; have HGG := Aside0.mk hg; have HB1 := Aside0.mk hb; have hz0 : w1.cell? ⟨gg, 0, none⟩ = some (.int .i64 a0_0) := (blk_cell BG1.out 0).trans rfl; have hz1 : w1.cell? ⟨gg, 1, none⟩ = some (.slice A0_1 l0_1.length c0_1) := (blk_cell BG1.out 1).trans rfl; clear hg hbox hb))); refine (impl_GraphOk.calls a0_0 _ _ l0_1 true _ (Kd.C_below HE.out HB1.out) HC.out HTT.out).mono ?_; rintro e w2 ⟨rfl, hb⟩; have BG2 := Aside0.mk (blk_below BG1.out hb); have HB2 := Aside0.mk (below_step HB1.out hb); clear hb hz0 hz1; have hz0 : w2.cell? ⟨gg, 0, none⟩ = some (.int .i64 a0_0) := (blk_cell BG2.out 0).trans rfl; have hz1 : w2.cell? ⟨gg, 1, none⟩ = some (.slice A0_1 l0_1.length c0_1) := (blk_cell BG2.out 1).trans rfl; (go_wp2_with fail); refine (impl_CountTrees.calls k a0_0 _ _ l0_1 c _ (Kd.C_below HE.out HB2.out) HC.out HCT.out).mono ?_; rintro e w3 ⟨rfl, hb⟩; have BG3 := Aside0.mk (blk_below BG2.out hb); have HB3 := Aside0.mk (below_step HB2.out hb); have HZ3 := Aside0.mk (show gg < w3.heap.size from blk_lt BG3.out); clear hb hz0 hz1 BG2 BG1; go_wp2; (go_ret2); exact ⟨_, rfl, Kd.S_nil _ _ _ _ _, HB3.out⟩
  rw [if_pos hle] at h; (split at h); (case isFalse => cases h); rename_i hok; obtain ⟨rfl, rfl⟩ := Prod.mk.inj (Option.some.inj h); clear h; obtain ⟨⟨hn1, hn6⟩, hel, hans⟩ := hok; obtain ⟨n, rfl⟩ := Int.eq_ofNat_of_zero_le (show 0 ≤ a0_0 by omega); rw [Int.toNat_natCast] at hans ⊢; have HANS := Aside0.mk hans; have HN := Aside0.mk (show 1 ≤ n ∧ n ≤ 6 ∧ l0_1.length ≤ 12 from ⟨by omega, by omega, hel⟩); have d0 : decide (c > 400) = false := decide_eq_false (by omega); have d1 : decide (400 < c) = false := decide_eq_false (by omega); clear hn1 hn6 hel hans hle; go_enter Try.func17, Try.ntmps17; (go_wp2_with (first | ((with_reducible refine gate_dst (N := 1) rfl ?_); refine box_event ?hg (N := 1) ?hd (cs := #[.int .i64 (n : Int), .slice A0_1 l0_1.length c0_1]) (t := 31) ?hr ?_; (case hd => rfl); (case hg => rfl); (case hr => exact zz11); intro gg hg w1 hbox hb; have BG1 := Aside0.mk hbox; have HGG := Aside0.mk hg; have HB1 := Aside0.mk hb; have hz0 : w1.cell? ⟨gg, 0, none⟩ = some (.int .i64 (n : Int)) := (blk_cell BG1.out 0).trans rfl; have hz1 : w1.cell? ⟨gg, 1, none⟩ = some (.slice A0_1 l0_1.length c0_1) := (blk_cell BG1.out 1).trans rfl; clear hg hbox hb))); refine (impl_GraphOk.calls (n : Int) _ _ l0_1 true _ (Kd.C_below HE.out HB1.out) HC.out HTT.out).mono ?_; rintro e w2 ⟨rfl, hb⟩; have BG2 := Aside0.mk (blk_below BG1.out hb); have HB2 := Aside0.mk (below_step HB1.out hb); clear hb hz0 hz1; have hz0 : w2.cell? ⟨gg, 0, none⟩ = some (.int .i64 (n : Int)) := (blk_cell BG2.out 0).trans rfl; have hz1 : w2.cell? ⟨gg, 1, none⟩ = some (.slice A0_1 l0_1.length c0_1) := (blk_cell BG2.out 1).trans rfl; (go_wp2_with fail); refine (impl_CountTrees.calls k (n : Int) _ _ l0_1 c _ (Kd.C_below HE.out HB2.out) HC.out HCT.out).mono ?_; rintro e w3 ⟨rfl, hb⟩; have BG3 := Aside0.mk (blk_below BG2.out hb); have HB3 := Aside0.mk (below_step HB2.out hb); have HZ3 := Aside0.mk (show gg < w3.heap.size from blk_lt BG3.out); clear hb hz0 hz1 BG2 BG1; (go_wp2_with (first | ((with_reducible refine gate_dst (N := 4) rfl ?_); refine box_event ?hg (N := 4) ?hd (cs := #[.slice none 0 0]) (t := 26) ?hr ?_; (case hd => rfl); (case hg => rfl); (case hr => exact zz11); intro go hg w4 hbox hb; have HGO := Aside0.mk hg; have HZ34 := Aside0.mk hb.size; have BO4 := Aside0.mk hbox; have BG4 := Aside0.mk (blk_below BG3.out hb); have HB4 := Aside0.mk (below_step HB3.out hb); clear hg hbox hb) | ((with_reducible refine gate_dst (N := 5) rfl ?_); refine box_event ?hg (N := 5) ?hd (cs := #[.nilFunc]) (t := 69) ?hr ?_; (case hd => rfl); (case hg => rfl); (case hr => exact zz11); intro gp hg w5 hbox hb; have HGP := Aside0.mk hg; have BP5 := Aside0.mk hbox; have BO5 := Aside0.mk (blk_below BO4.out hb); have BG5 := Aside0.mk (blk_below BG4.out hb); have HB5 := Aside0.mk (below_step HB4.out hb); have hy : w5.cell? ⟨gp, 0, none⟩ = some .nilFunc := (blk_cell BP5.out 0).trans rfl; have hfy := blk_frozen BP5.out 0; clear hg hbox hb))); generalize hw : w5.setCell ⟨gp, 0, none⟩ (.func (.func 44) #[] #[.pointer (some ⟨gg, 0, none⟩), .pointer (some ⟨go, 0, none⟩), .pointer (some ⟨gp, 0, none⟩)]) = w6; have HGOP := Aside0.mk (show gg < go ∧ go < gp ∧ w.heap.size ≤ go ∧ w.heap.size ≤ gp from ⟨by have := HGO.out; have := HZ3.out; omega, by have := HGP.out; have := blk_lt BO4.out; omega, by have := HGO.out; have := HB3.out.size; omega, by have := HGP.out; have := HB4.out.size; omega⟩); have BG6 := Aside0.mk (show w6.heap[gg]? = some (.cells #[.int .i64 (n : Int), .slice A0_1 l0_1.length c0_1] 31 (0, 0)) from by rw [← hw]; exact blk_far BG5.out (by have := HGOP.out; show gg ≠ gp; omega) _); have BO6 := Aside0.mk (show w6.heap[go]? = some (.cells #[.slice none 0 0] 26 (0, 0)) from by rw [← hw]; exact blk_far BO5.out (by have := HGOP.out; show go ≠ gp; omega) _); have BP6 := Aside0.mk (show w6.heap[gp]? = some (.cells #[.func (.func 44) #[] #[.pointer (some ⟨gg, 0, none⟩), .pointer (some ⟨go, 0, none⟩), .pointer (some ⟨gp, 0, none⟩)]] 69 (0, 0)) from by rw [← hw]; exact blk_set BP5.out 0 _); have HB6 := Aside0.mk (show Below w.heap.size w w6 from by rw [← hw]; exact below_set HB5.out HGOP.out.2.2.2); clear hw hy hfy BG5 BO5 BP5 BG4 BO4 BG3; have hp := impl_TreesOf.pick k n A0_1 c0_1 l0_1 gg go gp w HN.out.2.1 HN.out.2.2 HE.out HC.out HGOP.out.2.2.1 ⟨by have := HGOP.out; omega, by have := HGOP.out; omega⟩ (n - 1) [] (fun k_ => w6.heap.size ≤ k_) none 0 (.slice none 0 0) [] w6 (by have := HN.out; simp only [List.length_nil]; omega) (Nat.zero_le _) (fun t ht => Option.isSome_iff_exists.1 (HANS.out t (by rw [Cf.sets_pick]; exact ht))) (Kd.C_nil _ _) (Nat.le_refl _) (fun _ => ⟨rfl, rfl⟩) (fun ad e => by cases e) ⟨HB6.out, BG6.out, BO6.out, BP6.out, Kd.S_nil _ _ _ _ _, fun k_ hk => hk, fun (h_ : w6.heap.size ≤ gg) => by have := blk_lt BG6.out; omega, fun (h_ : w6.heap.size ≤ go) => by have := blk_lt BO6.out; omega, fun (h_ : w6.heap.size ≤ gp) => by have := blk_lt BP6.out; omega⟩ (by rw [← Cf.sets_pick, List.length_nil]; have := Cf.setsN_len6 HN.out.2.2 (k := n - 1) (by have := HN.out; omega); omega); rw [show ((Cf.fstS ([] : List Int) : Nat) : Int) = 0 from rfl] at hp; refine hp.mono ?_; rintro e w7 ⟨⟨v, rfl⟩, ⟨vo, hI⟩, hk⟩; (have e1 : ([] : List (List Int)) ++ Cf.pickF l0_1.length (fun t => impl_IsTree.f k (n : Int) l0_1 t == some true) (n - 1) [] = (Cf.setsN l0_1.length (n - 1)).filter (fun t => impl_IsTree.f k (n : Int) l0_1 t == some true) := by rw [List.nil_append, Cf.sets_pick]; rfl); rw [e1] at hI; have HI := Aside0.mk hI; obtain ⟨Ao, co, eo⟩ := Kd.S_slice hI.hs; subst eo; have hz8 := (blk_cell hI.ho 0).trans (show _ = some (Value.slice Ao _ co) from rfl); clear hI hk hp e1; go_wp2; (go_ret2); have hS := HI.out.hs; exact ⟨_, rfl, Kd.S_mono hS (fun _ _ => trivial), HI.out.hb⟩
def laws_FnExactTreesOf.T10 : Bool × List (List Nat × List Nat) := (true, [([], []), ([], []), ([1], [1]), ([0, 2, 2], [0, 2]), ([3], [3])])
def laws_FnExactTreesOf.B10 : List Nat := [0, 0, 2, 7, 15]
theorem laws_FnExactTreesOf.tab10 : rtab .any (opsOf Try.f5 10) = laws_FnExactTreesOf.T10 := by kernel_rfl
theorem laws_FnExactTreesOf.bits10 : waitsOk laws_FnExactTreesOf.T10.2 laws_FnExactTreesOf.B10 = true := by kernel_rfl
/-- Behind the marks. -/
def laws_FnExactTreesOf.tail2 (k : Nat) (a0 : Int) (l0 : List S86) (W : List (List Int) × Bool) (m : List (List Int) × Int) : Option Bool :=
 (laws_heldIntSS.f k m.1 1).bind fun q => if q < 0 then none else if q = m.2 then (laws_toGraph.f k a0 l0).bind fun a3 => (impl_TreesOf.f k a3.1 a3.2).bind fun H => (laws_eqIntSS.f k H.1 W.1).bind fun e4 => if e4 = true then (if H.2 = W.2 then (laws_heldIntSS.f k m.1 1).bind fun q2 => (if q2 < 0 then none else if q2 = m.2 then some true else none) else none) else none else none
/-- Behind the first five calls. -/
def laws_FnExactTreesOf.tail (k : Nat) (a0 : Int) (l0 : List S86) (W : List (List Int) × Bool) (x0 : Int × List S67) (G : List (List Int) × Bool) : Option Bool :=
 (laws_eqIntSS.f k G.1 W.1).bind fun e1 => if e1 = true then (if G.2 = W.2 then (laws_toGraph.f k a0 l0).bind fun a2 => (laws_eqGraph.f k x0.1 x0.2 a2.1 a2.2).bind fun e2 => (if e2 = true then (laws_markGraph.f k x0.1 x0.2 1).bind fun km => (if km.1 < 0 then none else (laws_eqIntSS.f k G.1 W.1).bind fun e3 => (if e3 = true then (laws_markIntSS.fR k G.1 1).bind fun m => laws_FnExactTreesOf.tail2 k a0 l0 W m else none)) else none) else none) else none
def laws_FnExactTreesOf.f (k : Nat) (a0 : Int) (l0 : List S86) : Option Bool :=
 (laws_szGraph.f a0 l0 1048576).bind fun t => if t < 0 then some true else (laws_toGraph.f k a0 l0).bind fun a => (spec_TreesOf.f k a.1 a.2).bind fun W => (laws_toGraph.f k a0 l0).bind fun x0 => (impl_TreesOf.f k x0.1 x0.2).bind fun G => laws_FnExactTreesOf.tail k a0 l0 W x0 G
theorem laws_FnExactTreesOf.mono : ∀ a0 a1 k, LeO (laws_FnExactTreesOf.f k a0 a1) (laws_FnExactTreesOf.f (k + 1) a0 a1) := by
 intro a0 a1 k; unfold laws_FnExactTreesOf.f laws_FnExactTreesOf.tail laws_FnExactTreesOf.tail2; repeat (first | exact LeO.refl _ | refine LeO.bind (LeO.refl (laws_szGraph.f _ _ _)) fun _ => ?_ | refine LeO.bind (laws_toGraph.mono _ _ k) fun _ => ?_ | refine LeO.bind (spec_TreesOf.mono _ _ k) fun _ => ?_ | refine LeO.bind (impl_TreesOf.mono _ _ k) fun _ => ?_ | refine LeO.bind (laws_eqIntSS.mono _ _ k) fun _ => ?_ | refine LeO.bind (laws_eqGraph.mono _ _ _ _ k) fun _ => ?_ | refine LeO.bind (laws_markGraph.mono _ _ _ k) fun _ => ?_ | refine LeO.bind (laws_markIntSS.monoR _ _ k) fun _ => ?_ | refine LeO.bind (laws_heldIntSS.mono _ _ k) fun _ => ?_ | refine LeO.ite ?_ ?_)
set_option maxHeartbeats 8000000 in
set_option maxRecDepth 1000000 in
theorem laws_FnExactTreesOf.calls (k : Nat) (a0_0 : Int) (A0_1 : Option Addr) (c0_1 : Nat) (l0_1 : List S86) (r : Bool) (w : World) (hr0_1 : Kd.C k86 w A0_1 l0_1.length l0_1) (hc0_1 : l0_1.length ≤ c0_1) (h : laws_FnExactTreesOf.f k a0_0 l0_1 = some r) :
  Calls Try.prog 5 #[.agg #[.int .i64 a0_0, .slice A0_1 l0_1.length c0_1]] w fun e w' => e = .returned (.bool r) ∧ Below w.heap.size w w' := by
 have hu1 := Try.underlying24; have hu2 := Try.underlying31; have HR := Aside0.mk hr0_1; have HC := Aside0.mk hc0_1; clear hr0_1 hc0_1; unfold laws_FnExactTreesOf.f at h; replace h := Option.bind_eq_some_iff.mp h; obtain ⟨t, ht, h⟩ := h; have HT := Aside0.mk ht; clear ht; by_cases c1 : t < 0
 ·rw [if_pos c1] at h; obtain rfl := Option.some.inj h; have d1 : decide (t < 0) = true := decide_eq_true c1; go_enter Try.func5, Try.ntmps5; (go_wp2_with (first | ((with_reducible refine gate_dst (N := 1) rfl ?_); refine box_event ?hg (N := 1) ?hd (cs := #[.int .i64 a0_0, .slice A0_1 l0_1.length c0_1]) (t := 24) ?hr ?_; (case hd => rfl); (case hg => rfl); (case hr => exact zz11); intro ga hg w1 hbox hb; have BA1 := Aside0.mk hbox; have HGA := Aside0.mk hg; have HB1 := Aside0.mk hb; have hz0 : w1.cell? ⟨ga, 0, none⟩ = some (.int .i64 a0_0) := (blk_cell BA1.out 0).trans rfl; have hz1 : w1.cell? ⟨ga, 1, none⟩ = some (.slice A0_1 l0_1.length c0_1) := (blk_cell BA1.out 1).trans rfl; clear hg hbox hb))); refine (laws_szGraph.calls a0_0 _ _ l0_1 1048576 t _ (Kd.C_below HR.out HB1.out) HC.out HT.out).mono ?_; rintro e w2 ⟨rfl, hb⟩; have BA2 := Aside0.mk (blk_below BA1.out hb); have HB2 := Aside0.mk (below_step HB1.out hb); clear hb hz0 hz1 BA1; go_wp2; go_ret; exact ⟨rfl, HB2.out⟩
 rw [if_neg c1] at h; have d1 : decide (t < 0) = false := decide_eq_false c1; clear c1; replace h := Option.bind_eq_some_iff.mp h; obtain ⟨⟨an, ae⟩, h_a, h⟩ := h; replace h := Option.bind_eq_some_iff.mp h; obtain ⟨⟨W, wb⟩, h_W, h⟩ := h; replace h := Option.bind_eq_some_iff.mp h; obtain ⟨⟨xn, xe⟩, h_x, h⟩ := h; replace h := Option.bind_eq_some_iff.mp h; obtain ⟨⟨G, gb⟩, h_G, h⟩ := h; unfold laws_FnExactTreesOf.tail at h; simp only at h; replace h := Option.bind_eq_some_iff.mp h; obtain ⟨e1, h_e1, h⟩ := h; (split at h); (case isFalse => cases h); rename_i t1; subst t1; (split at h); (case isFalse => cases h); rename_i g1; replace h := Option.bind_eq_some_iff.mp h; obtain ⟨⟨bn, be⟩, h_b, h⟩ := h; replace h := Option.bind_eq_some_iff.mp h; obtain ⟨e2, h_e2, h⟩ := h; (split at h); (case isFalse => cases h); rename_i t1; subst t1; replace h := Option.bind_eq_some_iff.mp h; obtain ⟨⟨km, ke⟩, h_k, h⟩ := h; (split at h); (case isTrue => cases h); rename_i n1; replace h := Option.bind_eq_some_iff.mp h; obtain ⟨e3, h_e3, h⟩ := h; (split at h); (case isFalse => cases h); rename_i t1; subst t1; replace h := Option.bind_eq_some_iff.mp h; obtain ⟨⟨M, m⟩, h_m, h⟩ := h; unfold laws_FnExactTreesOf.tail2 at h; simp only at h; replace h := Option.bind_eq_some_iff.mp h; obtain ⟨q, h_q, h⟩ := h; (split at h); (case isTrue => cases h); rename_i n2; (split at h); (case isFalse => cases h); rename_i t2; replace h := Option.bind_eq_some_iff.mp h; obtain ⟨⟨cn, ce⟩, h_c, h⟩ := h; replace h := Option.bind_eq_some_iff.mp h; obtain ⟨⟨H, hb2⟩, h_H, h⟩ := h; replace h := Option.bind_eq_some_iff.mp h; obtain ⟨e4, h_e4, h⟩ := h; (split at h); (case isFalse => cases h); rename_i t1; subst t1; (split at h); (case isFalse => cases h); rename_i g2; replace h := Option.bind_eq_some_iff.mp h; obtain ⟨q2, h_q2, h⟩ := h; (split at h); (case isTrue => cases h); rename_i n3; (split at h); (case isFalse => cases h); rename_i t3; obtain rfl := Option.some.inj h; clear h; simp only at h_a h_W h_x h_G h_e1 h_b h_e2 h_k h_e3 h_m h_q h_c h_H h_e4 h_q2 g1 g2 n1 t2 t3; subst g1; subst g2; have Ha_ := Aside0.mk h_a; have HW_ := Aside0.mk h_W; have Hx_ := Aside0.mk h_x; have HG_ := Aside0.mk h_G; have He1_ := Aside0.mk h_e1; have Hb_ := Aside0.mk h_b; have He2_ := Aside0.mk h_e2; have Hk_ := Aside0.mk h_k; have He3_ := Aside0.mk h_e3; have Hm_ := Aside0.mk h_m; have Hq_ := Aside0.mk h_q; have Hc_ := Aside0.mk h_c; have HH_ := Aside0.mk h_H; have He4_ := Aside0.mk h_e4; have Hq2_ := Aside0.mk h_q2; clear h_a h_W h_x h_G h_e1 h_b h_e2 h_k h_e3 h_m h_q h_c h_H h_e4 h_q2; have d2 : decide (km < 0) = false := decide_eq_false n1; have d3 : decide (q < 0) = false := decide_eq_false n2; have d4 : (q != m) = false := bne_eq_false_iff_eq.mpr t2; have d5 : decide (q2 < 0) = false := decide_eq_false n3; have d6 : (q2 != m) = false := bne_eq_false_iff_eq.mpr t3; clear n1 n2 n3 t2 t3; go_enter Try.func5, Try.ntmps5; (go_wp2_with (first | ((with_reducible refine gate_dst (N := 1) rfl ?_); refine box_event ?hg (N := 1) ?hd (cs := #[.int .i64 a0_0, .slice A0_1 l0_1.length c0_1]) (t := 24) ?hr ?_; (case hd => rfl); (case hg => rfl); (case hr => exact zz11); intro ga hg w1 hbox hb; have BA1 := Aside0.mk hbox; have HGA := Aside0.mk hg; have HB1 := Aside0.mk hb; have hz0 : w1.cell? ⟨ga, 0, none⟩ = some (.int .i64 a0_0) := (blk_cell BA1.out 0).trans rfl; have hz1 : w1.cell? ⟨ga, 1, none⟩ = some (.slice A0_1 l0_1.length c0_1) := (blk_cell BA1.out 1).trans rfl; clear hg hbox hb))); refine (laws_szGraph.calls a0_0 _ _ l0_1 1048576 t _ (Kd.C_below HR.out HB1.out) HC.out HT.out).mono ?_; rintro e w2 ⟨rfl, hb⟩; have BA2 := Aside0.mk (blk_below BA1.out hb); have HB2 := Aside0.mk (below_step HB1.out hb); clear hb hz0 hz1 BA1; have hz0 : w2.cell? ⟨ga, 0, none⟩ = some (.int .i64 a0_0) := (blk_cell BA2.out 0).trans rfl; have hz1 : w2.cell? ⟨ga, 1, none⟩ = some (.slice A0_1 l0_1.length c0_1) := (blk_cell BA2.out 1).trans rfl; (go_wp2_with fail); refine (laws_toGraph.calls k a0_0 _ _ l0_1 an ae _ (Kd.C_below HR.out HB2.out) HC.out Ha_.out).mono ?_; rintro e w3 ⟨v3, rfl, hR, hb⟩; obtain ⟨Aa, ca, ea⟩ := Kd.R_slice hR; subst ea; have HA3 := Aside0.mk (Kd.R_reads' hR); have BA3 := Aside0.mk (blk_below BA2.out hb); have HB3 := Aside0.mk (below_step HB2.out hb); clear hR hb hz0 hz1 BA2; (go_wp2_with fail); refine (spec_TreesOf.calls k an _ _ ae W _ _ HA3.out.2.2 HA3.out.2.1 HW_.out).mono ?_; rintro e w4 ⟨v4, rfl, hN, hb⟩; obtain ⟨Aw, cw, ew⟩ := Kd.N_slice hN; subst ew; have HW4 := Aside0.mk (Kd.N_mono (Kd.N_bound (hN)) (ok' := fun k_ => k_ < w4.heap.size) fun k_ hk => hk.2); have HWB := Aside0.mk hb.size; have BA4 := Aside0.mk (blk_below BA3.out hb); have HB4 := Aside0.mk (below_step HB3.out hb); have HGA4 := Aside0.mk (show ga < w4.heap.size from blk_lt BA4.out); clear hN hb BA3 HA3; have hz0 : w4.cell? ⟨ga, 0, none⟩ = some (.int .i64 a0_0) := (blk_cell BA4.out 0).trans rfl; have hz1 : w4.cell? ⟨ga, 1, none⟩ = some (.slice A0_1 l0_1.length c0_1) := (blk_cell BA4.out 1).trans rfl; (go_wp2_with fail); refine (laws_toGraph.calls k a0_0 _ _ l0_1 xn xe _ (Kd.C_below HR.out HB4.out) HC.out Hx_.out).mono ?_; rintro e w5 ⟨v5, rfl, hR, hb⟩; obtain ⟨Ax, cx, ex⟩ := Kd.R_slice hR; subst ex; have HX5 := Aside0.mk (Kd.R_mono (Kd.R_bound hR) (ok' := fun k_ => w4.heap.size ≤ k_ ∧ k_ < w5.heap.size) fun k_ hk => ⟨hk.2.1, hk.2.2.1⟩); have HW5 := Aside0.mk (Kd.N_below HW4.out hb); have HZ5 := Aside0.mk hb.size; have BA5 := Aside0.mk (blk_below BA4.out hb); have HB5 := Aside0.mk (below_step HB4.out hb); clear hR hb hz0 hz1 BA4 HW4; (go_wp2_with (first | ((with_reducible refine gate_dst (N := 6) rfl ?_); refine box_event ?hg (N := 6) ?hd (cs := #[.int .i64 0, .slice none 0 0]) (t := 31) ?hr ?_; (case hd => rfl); (case hg => rfl); (case hr => exact zz11); intro gx hg w6 hbox hb; have HGX := Aside0.mk hg; have BX6 := Aside0.mk hbox; have BA6 := Aside0.mk (blk_below BA5.out hb); have HB6 := Aside0.mk (below_step HB5.out hb); have HX6 := Aside0.mk (Kd.R_below HX5.out hb); have HW6 := Aside0.mk (Kd.N_below HW5.out hb); have hy0 : w6.cell? ⟨gx, 0, none⟩ = some (.int .i64 0) := (blk_cell BX6.out 0).trans rfl; have hy1 : w6.cell? ⟨gx, 1, none⟩ = some (.slice none 0 0) := (blk_cell BX6.out 1).trans rfl; have hf0 := blk_frozen BX6.out 0; have hf1 := blk_frozen BX6.out 1; clear hg hbox hb BA5 HX5 HW5))); (have hbb : ∀ b : Bool, (b != b) = false := by intro b; cases b <;> rfl); have HGAX := Aside0.mk (show ga < w4.heap.size ∧ w4.heap.size ≤ w5.heap.size ∧ gx = w5.heap.size ∧ w.heap.size ≤ gx from ⟨by exact HGA4.out, HZ5.out, HGX.out, by have := HGX.out; have := HB5.out.size; omega⟩); generalize hw : ((w6.setCell ⟨gx, 0, none⟩ (.int .i64 xn)).setCell ⟨gx, 1, none⟩ (.slice Ax xe.length cx)) = w7; have BX7 := Aside0.mk (show w7.heap[gx]? = some (.cells #[.int .i64 xn, .slice Ax xe.length cx] 31 (0, 0)) from by rw [← hw]; exact blk_set (blk_set BX6.out 0 _) 1 _); have BA7 := Aside0.mk (show w7.heap[ga]? = some (.cells #[.int .i64 a0_0, .slice A0_1 l0_1.length c0_1] 24 (0, 0)) from by rw [← hw]; exact blk_far (blk_far BA6.out (by have := HGAX.out; show ga ≠ gx; omega) _) (by have := HGAX.out; show ga ≠ gx; omega) _); have HB7 := Aside0.mk (show Below w.heap.size w w7 from by rw [← hw]; exact below_set (below_set HB6.out HGAX.out.2.2.2) HGAX.out.2.2.2); have HX7 := Aside0.mk (show Kd.R k67 67 w7 w4.heap.size (fun k_ => w4.heap.size ≤ k_ ∧ k_ < w5.heap.size) (.slice Ax xe.length cx) xe from by rw [← hw]; exact Kd.R_far (p := ⟨gx, 1, none⟩) (Kd.R_far (p := ⟨gx, 0, none⟩) HX6.out (fun k_ hk => by have h2 := hk.2; have := HGAX.out; show k_ ≠ gx; omega) _) (fun k_ hk => by have h2 := hk.2; have := HGAX.out; show k_ ≠ gx; omega) _); have HW7 := Aside0.mk (show Kd.N (Kd.slice 3 (Kd.int .i64)) 39 w7 w3.heap.size (fun k_ => k_ < w4.heap.size) (.slice Aw W.length cw) W from by rw [← hw]; exact Kd.N_far (p := ⟨gx, 1, none⟩) (Kd.N_far (p := ⟨gx, 0, none⟩) HW6.out (fun k_ hk => by have h2 : k_ < w4.heap.size := hk; have := HGAX.out; show k_ ≠ gx; omega) _) (fun k_ hk => by have h2 : k_ < w4.heap.size := hk; have := HGAX.out; show k_ ≠ gx; omega) _); have HZ7 := Aside0.mk (show w5.heap.size < w7.heap.size from by have := blk_lt BX7.out; have := HGAX.out; omega); clear hw BX6 BA6 HB6 HX6 HW6 hy0 hy1 hf0 hf1; refine (impl_TreesOf.calls k xn _ _ xe G _ _ (Kd.R_reads' HX7.out).2.2 (Kd.R_reads' HX7.out).2.1 HG_.out).mono ?_; rintro e w8 ⟨v8, rfl, hS, hb⟩; obtain ⟨Ag, cg, eg⟩ := Kd.S_slice hS; subst eg; have HG8 := Aside0.mk (Kd.S_mono (Kd.S_bound hS) (ok' := fun k_ => w7.heap.size ≤ k_ ∧ k_ < w8.heap.size) fun k_ hk => ⟨hk.2.1, hk.2.2.1⟩); have BX8 := Aside0.mk (blk_below BX7.out hb); have BA8 := Aside0.mk (blk_below BA7.out hb); have HX8 := Aside0.mk (Kd.R_below HX7.out hb); have HW8 := Aside0.mk (Kd.N_below HW7.out hb); have HB8 := Aside0.mk (below_step HB7.out hb); clear hS hb BX7 BA7 HX7 HW7; (go_wp2_with fail); refine (laws_eqIntSS.calls k _ _ G _ _ W true _ (Kd.S_reads' HG8.out).2.2 (Kd.S_reads' HG8.out).2.1 (Kd.N_reads' HW8.out).2.2 (Kd.N_reads' HW8.out).2.1 He1_.out).mono ?_; rintro e w9 ⟨rfl, hd⟩; have hb := Drawn0.below hd; have BX9 := Aside0.mk (blk_below BX8.out hb); have BA9 := Aside0.mk (blk_below BA8.out hb); have HX9 := Aside0.mk (Kd.R_below HX8.out hb); have HW9 := Aside0.mk (Kd.N_below HW8.out hb); have HG9 := Aside0.mk (Kd.S_below HG8.out hb); have HB9 := Aside0.mk (below_step HB8.out hb); clear hd hb BX8 BA8 HX8 HW8 HG8; (try go_wp2); refine start_ (n := 5) (S := fun w' => w'.cell? ⟨gx, 0, none⟩ = some (.int .i64 xn) ∧ w'.cell? ⟨gx, 1, none⟩ = some (.slice Ax xe.length cx) ∧ w'.cell? ⟨ga, 0, none⟩ = some (.int .i64 a0_0) ∧ w'.cell? ⟨ga, 1, none⟩ = some (.slice A0_1 l0_1.length c0_1)) (ds := []) (zM 5 0) (by kernel_rfl) rfl rfl ⟨(blk_cell BX9.out 0).trans rfl, (blk_cell BX9.out 1).trans rfl, (blk_cell BA9.out 0).trans rfl, (blk_cell BA9.out 1).trans rfl⟩ (fun hHeld => ?_); refine with_tabW laws_FnExactTreesOf.tab10 laws_FnExactTreesOf.bits10 (fun HT_ HW_ => ?_); have hb : Below w9.heap.size w9 w9.drew := below_drew (Below.refl _ _); have BX10 := Aside0.mk (blk_below BX9.out hb); have BA10 := Aside0.mk (blk_below BA9.out hb); have HX10 := Aside0.mk (Kd.R_below HX9.out hb); have HW10 := Aside0.mk (Kd.N_below HW9.out hb); have HG10 := Aside0.mk (Kd.S_below HG9.out hb); have HB10 := Aside0.mk (below_step HB9.out hb); clear hb BX9 BA9 HX9 HW9 HG9; generalize w9.drew = w10 at BX10 BA10 HX10 HW10 HG10 HB10 hHeld ⊢; refine take_ (i := 0) (N := some 41) (v := ?_) (a' := ?_) (zM 5 1) rfl rfl (take_ofW HT_.out HW_.out (by kernel_rfl)) (fun _ _ _ h => h) (Or.inl ⟨by rfl, ?_⟩) hHeld ?_ ?_; rotate_left
 ·rintro w' ⟨s0, s1, s2, s3⟩; exact zzT
 rotate_left
 ·exact zzS
 refine take_ (i := 1) (N := some 42) (v := ?_) (a' := ?_) (zM 5 3) rfl rfl (take_ofW HT_.out HW_.out (by kernel_rfl)) (fun _ _ _ h => h) (Or.inl ⟨by rfl, ?_⟩) hHeld ?_ ?_; rotate_left
 ·rintro w' ⟨s0, s1, s2, s3⟩; exact zzT
 rotate_left
 ·exact zzS
 refine one_ (i := 2) (N := some 43) (zM 5 7) rfl rfl (one_of HT_.out (by kernel_rfl)) (by decide) (fun K hK => ?_); refine goes_ Try.func9 (by kernel_rfl) rfl #[.agg #[.int .i64 a0_0, .slice A0_1 l0_1.length c0_1]] (by rfl) rfl rfl (by (try simp only [List.map_toArray, List.map_cons, List.map_nil]); first | done | rfl) ?_; refine (laws_toGraph.calls k a0_0 _ _ l0_1 bn be _ (Kd.C_below HR.out HB10.out) HC.out Hb_.out).mono ?_; rintro e w11 ⟨v11, rfl, hR, hb⟩; obtain ⟨Ab, cb, eb⟩ := Kd.R_slice hR; subst eb; have HBb := Aside0.mk (Kd.R_reads' hR); have BX11 := Aside0.mk (blk_below BX10.out hb); have BA11 := Aside0.mk (blk_below BA10.out hb); have HX11 := Aside0.mk (Kd.R_below HX10.out hb); have HW11 := Aside0.mk (Kd.N_below HW10.out hb); have HG11 := Aside0.mk (Kd.S_below HG10.out hb); have HB11 := Aside0.mk (below_step HB10.out hb); clear hR hb BX10 BA10 HX10 HW10 HG10; refine ⟨_, rfl, ?_⟩; refine hK.out _ _ ⟨(blk_cell BX11.out 0).trans rfl, (blk_cell BX11.out 1).trans rfl, (blk_cell BA11.out 0).trans rfl, (blk_cell BA11.out 1).trans rfl⟩ (fun hHeld => ?_); clear hK K; refine norm_ (a' := ?_) ?_ ?_; rotate_left
 ·show Act.put _ (some 43) _ = _; exact zzS
 refine one_ (i := 3) (N := some 44) (zM 5 15) rfl rfl (one_of HT_.out (by kernel_rfl)) (by decide) (fun K hK => ?_); refine goes_ Try.func12 (by kernel_rfl) rfl #[.agg #[.int .i64 xn, .slice Ax xe.length cx], .agg #[.int .i64 bn, .slice Ab be.length cb]] (by rfl) rfl rfl (by (try simp only [List.map_toArray, List.map_cons, List.map_nil]); first | done | rfl) ?_; refine (laws_eqGraph.calls k xn _ _ xe bn _ _ be true _ (Kd.R_reads' HX11.out).2.2 (Kd.R_reads' HX11.out).2.1 HBb.out.2.2 HBb.out.2.1 He2_.out).mono ?_; rintro e w12 ⟨rfl, hb⟩; have BX12 := Aside0.mk (blk_below BX11.out hb); have BA12 := Aside0.mk (blk_below BA11.out hb); have HX12 := Aside0.mk (Kd.R_below HX11.out hb); have HW12 := Aside0.mk (Kd.N_below HW11.out hb); have HG12 := Aside0.mk (Kd.S_below HG11.out hb); have HB12 := Aside0.mk (below_step HB11.out hb); clear hb BX11 BA11 HX11 HW11 HG11 HBb; refine ⟨_, rfl, ?_⟩; refine hK.out _ _ ⟨(blk_cell BX12.out 0).trans rfl, (blk_cell BX12.out 1).trans rfl, (blk_cell BA12.out 0).trans rfl, (blk_cell BA12.out 1).trans rfl⟩ (fun hHeld => ?_); clear hK K; refine norm_ (a' := ?_) ?_ ?_; rotate_left
 ·show Act.put _ (some 44) _ = _; exact zzS
 refine zQ 4 45 (zM 5 31) ?_
 refine done_ (done_of HT_.out (by kernel_rfl)) ?_; have hx0 : w12.cell? ⟨gx, 0, none⟩ = some (.int .i64 xn) := (blk_cell BX12.out 0).trans rfl; have hx1 : w12.cell? ⟨gx, 1, none⟩ = some (.slice Ax xe.length cx) := (blk_cell BX12.out 1).trans rfl; (go_wp2_with fail); refine (laws_markGraph.calls k xn (fun k_ => w4.heap.size ≤ k_ ∧ k_ < w5.heap.size) _ xe 1 km ke w _ HB12.out (Kd.R_lower HX12.out HB4.out.size) Hk_.out).mono ?_; rintro e w13 ⟨rfl, _, hb, hk⟩; have HW13 := Aside0.mk (Kd.N_step HW12.out fun k_ ho hlt => hk.2 k_ hlt fun h => by have h2 : k_ < w4.heap.size := ho; have := h.1; omega); have HG13 := Aside0.mk (Kd.S_step HG12.out fun k_ ho hlt => hk.2 k_ hlt fun h => by have := ho.1; have := h.2; have := HZ7.out; omega); have BA13 := Aside0.mk (blk_kept BA12.out hk fun h => by have := h.1; have := HGAX.out.1; omega); have HB13 := Aside0.mk hb; clear hb hk hx0 hx1 BX12 BA12 HX12 HW12 HG12; (go_wp2_with fail); refine (laws_eqIntSS.calls k _ _ G _ _ W true _ (Kd.S_reads' HG13.out).2.2 (Kd.S_reads' HG13.out).2.1 (Kd.N_reads' HW13.out).2.2 (Kd.N_reads' HW13.out).2.1 He3_.out).mono ?_; rintro e w14 ⟨rfl, hd⟩; have hb := Drawn0.below hd; have BA14 := Aside0.mk (blk_below BA13.out hb); have HW14 := Aside0.mk (Kd.N_below HW13.out hb); have HG14 := Aside0.mk (Kd.S_below HG13.out hb); have HB14 := Aside0.mk (below_step HB13.out hb); clear hd hb BA13 HW13 HG13; (go_wp2_with fail); refine (laws_markIntSS.callsR k (fun k_ => w7.heap.size ≤ k_ ∧ k_ < w8.heap.size) _ G 1 M m w _ HB14.out (Kd.S_lower HG14.out HB7.out.size) Hm_.out).mono ?_; rintro e w15 ⟨rfl, hb, hk, hS⟩; obtain ⟨hl, _, _⟩ := Kd.S_reads' hS; rw [hl] at hS; have HM15 := Aside0.mk hS; have HW15 := Aside0.mk (Kd.N_step HW14.out fun k_ ho hlt => hk.2 k_ hlt fun h => by have h2 : k_ < w4.heap.size := ho; have := h.1; have := HZ7.out; have := HGAX.out; omega); have BA15 := Aside0.mk (blk_kept BA14.out hk fun h => by have := h.1; have := HGAX.out; have := HZ7.out; omega); have HB15 := Aside0.mk hb; clear hb hk hS BA14 HW14 HG14; rw [hl]; clear hl; (go_wp2_with fail); refine (laws_heldIntSS.calls k _ _ M 1 q _ (Kd.S_reads' HM15.out).2.2 (Kd.S_reads' HM15.out).2.1 Hq_.out).mono ?_; rintro e w16 ⟨rfl, hd⟩; have hb := Drawn0.below hd; have BA16 := Aside0.mk (blk_below BA15.out hb); have HW16 := Aside0.mk (Kd.N_below HW15.out hb); have HM16 := Aside0.mk (Kd.S_below HM15.out hb); have HB16 := Aside0.mk (below_step HB15.out hb); clear hd hb BA15 HW15 HM15; have hz0 : w16.cell? ⟨ga, 0, none⟩ = some (.int .i64 a0_0) := (blk_cell BA16.out 0).trans rfl; have hz1 : w16.cell? ⟨ga, 1, none⟩ = some (.slice A0_1 l0_1.length c0_1) := (blk_cell BA16.out 1).trans rfl; (go_wp2_with fail); refine (laws_toGraph.calls k a0_0 _ _ l0_1 cn ce _ (Kd.C_below HR.out HB16.out) HC.out Hc_.out).mono ?_; rintro e w17 ⟨v17, rfl, hR, hb⟩; obtain ⟨Ac, cc, ec⟩ := Kd.R_slice hR; subst ec; have HCc := Aside0.mk (Kd.R_reads' hR); have HW17 := Aside0.mk (Kd.N_below HW16.out hb); have HM17 := Aside0.mk (Kd.S_below HM16.out hb); have HB17 := Aside0.mk (below_step HB16.out hb); clear hR hb hz0 hz1 BA16 HW16 HM16; (go_wp2_with fail); refine (impl_TreesOf.calls k cn _ _ ce H _ _ HCc.out.2.2 HCc.out.2.1 HH_.out).mono ?_; rintro e w18 ⟨v18, rfl, hS, hb⟩; obtain ⟨Ah, ch, eh⟩ := Kd.S_slice hS; subst eh; have HG18 := Aside0.mk hS; have HW18 := Aside0.mk (Kd.N_below HW17.out hb); have HM18 := Aside0.mk (Kd.S_below HM17.out hb); have HB18 := Aside0.mk (below_step HB17.out hb); clear hS hb HCc HW17 HM17; (go_wp2_with fail); refine (laws_eqIntSS.calls k _ _ H _ _ W true _ (Kd.S_reads' HG18.out).2.2 (Kd.S_reads' HG18.out).2.1 (Kd.N_reads' HW18.out).2.2 (Kd.N_reads' HW18.out).2.1 He4_.out).mono ?_; rintro e w19 ⟨rfl, hd⟩; have hb := Drawn0.below hd; have HM19 := Aside0.mk (Kd.S_below HM18.out hb); have HB19 := Aside0.mk (below_step HB18.out hb); clear hd hb HW18 HM18 HG18; (go_wp2_with fail); refine (laws_heldIntSS.calls k _ _ M 1 q2 _ (Kd.S_reads' HM19.out).2.2 (Kd.S_reads' HM19.out).2.1 Hq2_.out).mono ?_; rintro e w20 ⟨rfl, hd⟩; have hb := Drawn0.below hd; have HM20 := Aside0.mk (Kd.S_below HM19.out hb); have HB20 := Aside0.mk (below_step HB19.out hb); clear hd hb HM19; go_wp2; go_ret; exact ⟨rfl, HB20.out⟩
end Go.Proofs.Ytdfibdjjoplmmaa.P
end

section
namespace Go.Proofs.Ytdfibdjjoplmmaa.Cf
set_option linter.unusedVariables false
set_option linter.unusedSimpArgs false
def sumE (es : List E) (f : E → Int) : Int := (es.map f).sum
theorem sumE_nil (f : E → Int) : sumE [] f = 0 := rfl
theorem sumE_cons (e : E) (r : List E) (f : E → Int) : sumE (e :: r) f = f e + sumE r f := by simp [sumE]
theorem sumE_le {es : List E} {f g : E → Int} (h : ∀ e ∈ es, f e ≤ g e) : sumE es f ≤ sumE es g := by
  induction es with
  | nil => exact Int.le_refl _
  | cons e r ih =>
    rw [sumE_cons, sumE_cons]
    have := ih (fun x hx => h x (List.mem_cons_of_mem _ hx))
    have := h e List.mem_cons_self
    omega
theorem sumE_zero {es : List E} {f : E → Int} (h : ∀ e ∈ es, f e = 0) : sumE es f = 0 := by
  induction es with
  | nil => rfl
  | cons e r ih => rw [sumE_cons, ih (fun x hx => h x (List.mem_cons_of_mem _ hx)), h e List.mem_cons_self]; rfl
theorem sumE_nonneg {es : List E} {f : E → Int} (h : ∀ e ∈ es, 0 ≤ f e) : 0 ≤ sumE es f := by
  have := sumE_le (es := es) (f := fun _ => 0) (g := f) h
  rw [sumE_zero (fun _ _ => rfl)] at this
  exact this
def one (v : Int) (t : Int) (w : Int) : Int := if w = v then t else 0
def below (n : Nat) (s : Int → Int) (t : Int) : Nat := (List.range n).countP (fun i => decide (s (i : Nat) < t))
def valE (v : Int) (e : E) : Int := if e.f0 = v ∨ e.f1 = v then 1 else 0
/-- The number of edges at a vertex. -/
def val (es : List E) (v : Int) : Int := sumE es (valE v)
def multE (a b : Int) (e : E) : Int := if (e.f0 = a ∧ e.f1 = b) ∨ (e.f0 = b ∧ e.f1 = a) then 1 else 0
/-- The number of edges between two vertices. -/
def mult (es : List E) (a b : Int) : Int := sumE es (multE a b)
theorem val_nonneg (es : List E) (v : Int) : 0 ≤ val es v := sumE_nonneg fun e _ => by unfold valE; split <;> omega
theorem mult_nonneg (es : List E) (a b : Int) : 0 ≤ mult es a b := sumE_nonneg fun e _ => by unfold multE; split <;> omega
theorem sumE_len {es : List E} {f : E → Int} (h : ∀ e ∈ es, f e ≤ 1) : sumE es f ≤ es.length := by
  induction es with
  | nil => simp [sumE]
  | cons e r ih =>
    rw [sumE_cons]
    have := ih (fun x hx => h x (List.mem_cons_of_mem _ hx))
    have := h e List.mem_cons_self
    simp only [List.length_cons]
    omega
theorem val_le (es : List E) (v : Int) : val es v ≤ es.length := sumE_len fun e _ => by unfold valE; split <;> omega
theorem mult_le (es : List E) (a b : Int) : mult es a b ≤ es.length := sumE_len fun e _ => by unfold multE; split <;> omega
theorem sum_ind (x : Int) : ∀ (b : List Int), b.Nodup → (b.map (fun w => if x = w then (1 : Int) else 0)).sum = if x ∈ b then 1 else 0
  | [], _ => by simp
  | a :: r, h => by
    have ih := sum_ind x r (List.nodup_cons.1 h).2
    have hn := (List.nodup_cons.1 h).1
    simp only [List.map_cons, List.sum_cons, ih, List.mem_cons]
    by_cases e : x = a
    · subst e
      simp [hn]
    · simp [e]
theorem sum_add (b : List Int) (f g : Int → Int) : (b.map (fun w => f w + g w)).sum = (b.map f).sum + (b.map g).sum := by
  induction b with
  | nil => rfl
  | cons a r ih => simp only [List.map_cons, List.sum_cons, ih]; omega
end Go.Proofs.Ytdfibdjjoplmmaa.Cf
end

section
namespace Go.Proofs.Ytdfibdjjoplmmaa.Cf
set_option linter.unusedVariables false
set_option linter.unusedSimpArgs false
open Go.Proofs.YtdfibdjjoplmmaaW.PrintWords
theorem rd_set {x : List Int} {i : Int} (h0 : 0 ≤ i) (h1 : i < x.length) (y : Int) {w : Int} (hw : 0 ≤ w) : rd (x.set i.toNat y) w = if w = i then y else rd x w := by
  obtain ⟨a, rfl⟩ := Int.eq_ofNat_of_zero_le h0
  obtain ⟨b, rfl⟩ := Int.eq_ofNat_of_zero_le hw
  simp only [Int.ofNat_eq_natCast, Int.toNat_natCast, rd_nat, List.getD_eq_getElem?_getD] at *
  by_cases c : b = a
  · subst c
    rw [List.getElem?_set_self (by omega), if_pos rfl]
    rfl
  · rw [List.getElem?_set_ne (fun y => c y.symm), if_neg (by omega)]
/-- A list's numbers lie between -B and B. -/
def Bd (x : List Int) (B : Int) : Prop := ∀ w : Int, 0 ≤ w → w < x.length → -B ≤ rd x w ∧ rd x w ≤ B
theorem Bd.mono {x : List Int} {B B' : Int} (h : Bd x B) (hB : B ≤ B') : Bd x B' := fun w h0 h1 => by have := h w h0 h1; omega
/-- The list c tells s on the first n numbers. -/
def Rep (n : Nat) (c : List Int) (s : Int → Int) : Prop := c.length = n ∧ ∀ w : Int, 0 ≤ w → w < n → rd c w = s w
theorem Rep.ext {n : Nat} {c c' : List Int} {s : Int → Int} (h : Rep n c s) (h' : Rep n c' s) : c = c' := by
  apply List.ext_getElem (by rw [h.1, h'.1])
  intro i h1 h2
  have e := h.2 i (by omega) (by have := h.1; omega)
  have e' := h'.2 i (by omega) (by have := h.1; omega)
  rw [rd_get h1] at e
  rw [rd_get h2] at e'
  rw [e, e']
theorem Rep.congr {n : Nat} {c : List Int} {s t : Int → Int} (h : Rep n c s) (he : ∀ w : Int, 0 ≤ w → w < n → s w = t w) : Rep n c t := ⟨h.1, fun w h0 h1 => (h.2 w h0 h1).trans (he w h0 h1)⟩
theorem Rep.set {n : Nat} {c : List Int} {s : Int → Int} (h : Rep n c s) {v : Int} (h0 : 0 ≤ v) (h1 : v < n) (y : Int) : Rep n (c.set v.toNat y) (fun w => if w = v then y else s w) := by
  refine ⟨by rw [List.length_set]; exact h.1, fun w w0 w1 => ?_⟩
  rw [rd_set h0 (by rw [h.1]; exact h1) y w0, h.2 w w0 w1]
theorem rd_replicate (n : Nat) (v : Int) : rd (List.replicate n (0 : Int)) v = 0 := by
  unfold rd
  rw [List.getD_eq_getElem?_getD]
  by_cases h : v.toNat < n
  · rw [List.getElem?_replicate_of_lt h]; rfl
  · rw [List.getElem?_eq_none (by simp; omega)]; rfl
theorem Rep.zero (n : Nat) : Rep n (List.replicate n (0 : Int)) (fun _ => 0) := ⟨by simp, fun w _ _ => rd_replicate n w⟩
/-- The list of a function's first n values. -/
def repL (n : Nat) (f : Int → Int) : List Int := (List.range n).map fun i : Nat => f (i : Int)
theorem repL_len (n : Nat) (f : Int → Int) : (repL n f).length = n := by simp [repL]
theorem repL_rep (n : Nat) (f : Int → Int) : Rep n (repL n f) f := by
  refine ⟨by simp [repL], fun w h0 h1 => ?_⟩
  obtain ⟨a, rfl⟩ := Int.eq_ofNat_of_zero_le h0
  rw [rd_get (by simp [repL]; omega)]
  simp [repL]
theorem Rep.eq {n : Nat} {c : List Int} {s : Int → Int} (h : Rep n c s) : c = repL n s := h.ext (repL_rep n s)
end Go.Proofs.Ytdfibdjjoplmmaa.Cf
end

section
namespace Go.Proofs.Ytdfibdjjoplmmaa.Cf
set_option linter.unusedVariables false
set_option linter.unusedSimpArgs false
open Go.RowKit Go.Proofs.YtdfibdjjoplmmaaW.PrintWords
/-- g 0 - g 1 + g 2 - .. (n terms). -/
def alt : Nat → (Nat → Int) → Int
  | 0, _ => 0
  | n + 1, g => g 0 - alt n fun i => g (i + 1)
theorem alt_congr : ∀ {n : Nat} {f g : Nat → Int}, (∀ i, i < n → f i = g i) → alt n f = alt n g
  | 0, _, _, _ => rfl
  | n + 1, f, g, h => by
    unfold alt
    rw [h 0 (by omega), alt_congr (n := n) (f := fun i => f (i + 1)) (g := fun i => g (i + 1)) fun i hi => h (i + 1) (by omega)]
theorem alt_zero {n : Nat} {g : Nat → Int} (h : ∀ i, i < n → g i = 0) : alt n g = 0 := by
  induction n generalizing g with
  | zero => rfl
  | succ n ih =>
    unfold alt
    rw [h 0 (by omega), ih fun i hi => h (i + 1) (by omega)]
    rfl
theorem alt_bd {n : Nat} {g : Nat → Int} {C : Int} (h : ∀ i, i < n → -C ≤ g i ∧ g i ≤ C) : -(n * C) ≤ alt n g ∧ alt n g ≤ n * C := by
  induction n generalizing g with
  | zero => simp [alt]
  | succ n ih =>
    have h0 := h 0 (by omega)
    have h1 := ih (g := fun i => g (i + 1)) fun i hi => h (i + 1) (by omega)
    unfold alt
    have e : ((n + 1 : Nat) : Int) * C = n * C + C := by rw [Int.natCast_add, Int.add_mul]; simp
    omega
theorem alt_add (n : Nat) (f g : Nat → Int) : alt n (fun i => f i + g i) = alt n f + alt n g := by
  induction n generalizing f g with
  | zero => rfl
  | succ n ih =>
    unfold alt
    rw [ih (fun i => f (i + 1)) (fun i => g (i + 1))]
    show f 0 + g 0 - _ = _
    omega
theorem alt_mul (n : Nat) (c : Int) (f : Nat → Int) : alt n (fun i => c * f i) = c * alt n f := by
  induction n generalizing f with
  | zero => simp [alt]
  | succ n ih =>
    unfold alt
    rw [ih (fun i => f (i + 1)), Int.mul_sub]
/-- The entry of a matrix. -/
def ent (M : List (List Int)) (r c : Int) : Int := rd (M.getD r.toNat []) c
/-- The determinant of some rows and columns, by the first row. -/
def detL (M : List (List Int)) : List Int → List Int → Int
  | [], _ => 1
  | r :: rs, cs => alt cs.length fun i => ent M r (cs.getD i 0) * detL M rs (cs.eraseIdx i)
theorem mul_bd {a b A B : Int} (ha : -A ≤ a ∧ a ≤ A) (hb : -B ≤ b ∧ b ≤ B) : -(A * B) ≤ a * b ∧ a * b ≤ A * B := by
  have hA : 0 ≤ A := by omega
  have h1 : a.natAbs * b.natAbs ≤ A.natAbs * B.natAbs := Nat.mul_le_mul (by omega) (by omega)
  rw [← Int.natAbs_mul, ← Int.natAbs_mul] at h1
  have h2 : 0 ≤ A * B := Int.mul_nonneg (by omega) (by omega)
  omega
theorem detL_bd {M : List (List Int)} {B : Int} (hB : 0 ≤ B) (hM : ∀ r c, -B ≤ ent M r c ∧ ent M r c ≤ B) : ∀ (rs cs : List Int), cs.length ≤ 6 → -((6 * B) ^ rs.length) ≤ detL M rs cs ∧ detL M rs cs ≤ (6 * B) ^ rs.length
  | [], cs, _ => by simp [detL]
  | r :: rs, cs, hc => by
    have h := alt_bd (n := cs.length) (g := fun i => ent M r (cs.getD i 0) * detL M rs (cs.eraseIdx i)) (C := B * (6 * B) ^ rs.length) fun i hi =>
      mul_bd (hM _ _) (detL_bd hB hM rs (cs.eraseIdx i) (by have := List.length_eraseIdx_le cs i; omega))
    have hp : 0 ≤ B * (6 * B) ^ rs.length := Int.mul_nonneg hB (Int.pow_nonneg (by omega))
    have e : (6 * B) ^ (r :: rs).length = 6 * (B * (6 * B) ^ rs.length) := by
      rw [List.length_cons, Int.pow_succ, Int.mul_comm, Int.mul_assoc]
    have h6 : (cs.length : Int) * (B * (6 * B) ^ rs.length) ≤ 6 * (B * (6 * B) ^ rs.length) := Int.mul_le_mul_of_nonneg_right (by omega) hp
    rw [e]
    unfold detL
    omega
abbrev Col := Int → Int
def z0 : Col := fun _ => 0
def detC : List Int → List Col → Int
  | [], _ => 1
  | r :: rs, cs => alt cs.length fun i => (cs.getD i z0) r * detC rs (cs.eraseIdx i)
def sg : Nat → Int
  | 0 => 1
  | n + 1 => - sg n
theorem sg_two (n : Nat) : sg (n + 2) = sg n := by simp [sg]
theorem sg_even (n : Nat) : sg (n + n) = 1 := by
  induction n with
  | zero => rfl
  | succ n ih => rw [show n + 1 + (n + 1) = n + n + 2 by omega, sg_two, ih]
theorem alt_neg (n : Nat) (g : Nat → Int) : alt n (fun i => - g i) = - alt n g := by
  have h := alt_mul n (-1) g
  simpa using h
/-- The term at j, and the others. -/
theorem alt_split : ∀ (j n : Nat) (g : Nat → Int), j ≤ n → alt (n + 1) g = sg j * g j + alt n (fun k => if k < j then g k else - g (k + 1))
  | 0, n, g, _ => by
    have h := alt_neg n fun k => g (k + 1)
    show g 0 - alt n (fun i => g (i + 1)) = 1 * g 0 + alt n (fun k => if k < 0 then g k else - g (k + 1))
    rw [alt_congr (f := fun k => if k < 0 then g k else - g (k + 1)) (g := fun k => - g (k + 1)) fun i _ => if_neg (by omega), h]
    omega
  | j + 1, 0, g, h => by omega
  | j + 1, n + 1, g, h => by
    have ih := alt_split j n (fun i => g (i + 1)) (by omega)
    show g 0 - alt (n + 1) (fun i => g (i + 1)) = _
    rw [ih]
    have e : alt (n + 1) (fun k => if k < j + 1 then g k else - g (k + 1)) = g 0 - alt n (fun k => if k < j then g (k + 1) else - g (k + 1 + 1)) := by
      show (if 0 < j + 1 then g 0 else _) - alt n (fun k => if k + 1 < j + 1 then g (k + 1) else - g (k + 1 + 1)) = _
      rw [if_pos (by omega)]
      congr 1
      refine alt_congr fun i _ => ?_
      by_cases c : i < j
      · rw [if_pos c, if_pos (by omega)]
      · rw [if_neg c, if_neg (by omega)]
    rw [e]
    show _ = - sg j * g (j + 1) + _
    rw [Int.neg_mul]
    omega
/-- Two neighbours that are alike, and nothing else. -/
theorem alt_two {n p : Nat} (hp : p + 1 < n) {g : Nat → Int} (h : ∀ i, i < n → i ≠ p → i ≠ p + 1 → g i = 0) (he : g p = g (p + 1)) : alt n g = 0 := by
  obtain ⟨m, rfl⟩ : ∃ m, n = m + 2 := ⟨n - 2, by omega⟩
  rw [alt_split p (m + 1) g (by omega), alt_split p m _ (by omega), if_neg (by omega), ← he, alt_zero fun i hi => ?_]
  · rw [Int.mul_neg]; omega
  · by_cases c : i < p
    · rw [if_pos c, if_pos c, h i (by omega) (by omega) (by omega)]
    · rw [if_neg c, if_neg (by omega), h (i + 1 + 1) (by omega) (by omega) (by omega)]
      simp
theorem getD_erase {α : Type} (l : List α) (i j : Nat) (d : α) : (l.eraseIdx i).getD j d = l.getD (if j < i then j else j + 1) d := by
  rw [List.getD_eq_getElem?_getD, List.getElem?_eraseIdx, List.getD_eq_getElem?_getD]
  split <;> rfl
theorem erase_erase {α : Type} (l : List α) {j k : Nat} (h : k < j) : (l.eraseIdx k).eraseIdx (j - 1) = (l.eraseIdx j).eraseIdx k := by
  apply List.ext_getElem?
  intro i
  simp only [List.getElem?_eraseIdx]
  by_cases a : i < k
  · rw [if_pos (show i < j - 1 by omega), if_pos a, if_pos a, if_pos (show i < j by omega)]
  · by_cases b : i < j - 1
    · rw [if_pos b, if_neg a, if_neg a, if_pos (by omega)]
    · rw [if_neg b, if_neg a, if_neg (show ¬ i + 1 < k by omega), if_neg (show ¬ i + 1 < j by omega)]
theorem erase_set_self {α : Type} (l : List α) (p : Nat) (x : α) : (l.set p x).eraseIdx p = l.eraseIdx p := by
  apply List.ext_getElem?
  intro i
  simp only [List.getElem?_eraseIdx, List.getElem?_set]
  split
  · rw [if_neg (by omega)]
  · rw [if_neg (by omega)]
theorem erase_set_lt {α : Type} (l : List α) {p i : Nat} (h : i < p) (x : α) : (l.set p x).eraseIdx i = (l.eraseIdx i).set (p - 1) x := by
  apply List.ext_getElem?
  intro k
  simp only [List.getElem?_eraseIdx, List.getElem?_set, List.length_eraseIdx]
  by_cases a : k < i
  · rw [if_pos a, if_neg (by omega), if_neg (by omega), if_pos a]
  · rw [if_neg a]
    by_cases b : p = k + 1
    · rw [if_pos b, if_pos (show p - 1 = k by omega)]
      by_cases c : p < l.length
      · rw [if_pos c, if_pos (by split <;> omega)]
      · rw [if_neg c, if_neg (by split <;> omega)]
    · rw [if_neg b, if_neg (show ¬ p - 1 = k by omega), if_neg a]
theorem erase_set_gt {α : Type} (l : List α) {p i : Nat} (h : p < i) (x : α) : (l.set p x).eraseIdx i = (l.eraseIdx i).set p x := by
  apply List.ext_getElem?
  intro k
  simp only [List.getElem?_eraseIdx, List.getElem?_set, List.length_eraseIdx]
  by_cases a : k < i
  · rw [if_pos a, if_pos a]
    by_cases b : p = k
    · rw [if_pos b, if_pos b]
      by_cases c : p < l.length
      · rw [if_pos c, if_pos (by split <;> omega)]
      · rw [if_neg c, if_neg (by split <;> omega)]
    · rw [if_neg b, if_neg b]
  · rw [if_neg a, if_neg a, if_neg (by omega), if_neg (by omega)]
theorem getD_set {α : Type} (l : List α) (p i : Nat) (x d : α) : (l.set p x).getD i d = if i = p ∧ p < l.length then x else l.getD i d := by
  rw [List.getD_eq_getElem?_getD, List.getElem?_set, List.getD_eq_getElem?_getD]
  by_cases c : p = i
  · subst c
    by_cases b : p < l.length
    · rw [if_pos rfl, if_pos b, if_pos ⟨rfl, b⟩]; rfl
    · rw [if_pos rfl, if_neg b, if_neg (by omega), List.getElem?_eq_none (by omega)]
  · rw [if_neg c, if_neg (by omega)]
theorem detC_congr {rs : List Int} : ∀ {cs ds : List Col}, cs.length = ds.length → (∀ i, i < cs.length → ∀ r ∈ rs, (cs.getD i z0) r = (ds.getD i z0) r) → detC rs cs = detC rs ds := by
  induction rs with
  | nil => intro cs ds _ _; rfl
  | cons r rs ih =>
    intro cs ds hl h
    unfold detC
    rw [← hl]
    refine alt_congr fun i hi => ?_
    rw [h i hi r List.mem_cons_self]
    congr 1
    refine ih (by rw [List.length_eraseIdx, List.length_eraseIdx, hl]) fun k hk r' hr' => ?_
    rw [getD_erase, getD_erase]
    have : (cs.eraseIdx i).length = cs.length - 1 := by rw [List.length_eraseIdx, if_pos hi]
    exact h _ (by split <;> omega) r' (List.mem_cons_of_mem _ hr')
theorem detC_lin (u w : Col) (t : Int) : ∀ {rs : List Int} {cs : List Col} {p : Nat}, rs.length = cs.length → p < cs.length → detC rs (cs.set p fun r => u r + t * w r) = detC rs (cs.set p u) + t * detC rs (cs.set p w)
  | [], cs, p, h, hp => by simp at h; omega
  | r :: rs, cs, p, h, hp => by
    unfold detC
    simp only [List.length_set]
    rw [← alt_mul, ← alt_add]
    refine alt_congr fun i hi => ?_
    by_cases c : i = p
    · subst c
      rw [erase_set_self, erase_set_self, erase_set_self, getD_set, getD_set, getD_set, if_pos ⟨rfl, hp⟩, if_pos ⟨rfl, hp⟩, if_pos ⟨rfl, hp⟩, Int.add_mul, Int.mul_assoc]
    · have hl : (cs.eraseIdx i).length = cs.length - 1 := by rw [List.length_eraseIdx, if_pos hi]
      have hr : rs.length = cs.length - 1 := by simp at h; omega
      rw [getD_set, getD_set, getD_set, if_neg (by omega), if_neg (by omega), if_neg (by omega)]
      by_cases d : i < p
      · rw [erase_set_lt _ d, erase_set_lt _ d, erase_set_lt _ d, detC_lin u w t (by omega) (by omega), Int.mul_add, Int.mul_left_comm]
      · rw [erase_set_gt _ (by omega), erase_set_gt _ (by omega), erase_set_gt _ (by omega), detC_lin u w t (by omega) (by omega), Int.mul_add, Int.mul_left_comm]
theorem detC_next : ∀ {rs : List Int} {cs : List Col} {p : Nat}, rs.length = cs.length → p + 1 < cs.length → cs.getD p z0 = cs.getD (p + 1) z0 → detC rs cs = 0
  | [], cs, p, h, hp, _ => by simp at h; omega
  | r :: rs, cs, p, h, hp, he => by
    unfold detC
    refine alt_two hp (fun i hi h1 h2 => ?_) ?_
    · have hl : (cs.eraseIdx i).length = cs.length - 1 := by rw [List.length_eraseIdx, if_pos hi]
      have hr : rs.length = cs.length - 1 := by simp at h; omega
      by_cases d : i < p
      · rw [detC_next (p := p - 1) (by omega) (by omega) (by rw [getD_erase, getD_erase, if_neg (by omega), if_neg (by omega), show p - 1 + 1 = p by omega]; exact he), Int.mul_zero]
      · rw [detC_next (p := p) (by omega) (by omega) (by rw [getD_erase, getD_erase, if_pos (by omega), if_pos (by omega)]; exact he), Int.mul_zero]
    · have e : cs.eraseIdx p = cs.eraseIdx (p + 1) := by
        apply List.ext_getElem?
        intro k
        simp only [List.getElem?_eraseIdx]
        by_cases a : k < p
        · rw [if_pos a, if_pos (by omega)]
        · by_cases b : k = p
          · subst b
            rw [if_neg (by omega), if_pos (by omega)]
            rw [List.getD_eq_getElem?_getD, List.getD_eq_getElem?_getD, List.getElem?_eq_getElem (show k < cs.length by omega), List.getElem?_eq_getElem (show k + 1 < cs.length by omega)] at he
            rw [List.getElem?_eq_getElem (show k < cs.length by omega), List.getElem?_eq_getElem (show k + 1 < cs.length by omega)]
            simp only [Option.getD_some] at he
            rw [he]
          · rw [if_neg (by omega), if_neg (by omega)]
      rw [he, e]
theorem set_self {α : Type} {l : List α} {p : Nat} (d : α) (hp : p < l.length) : l.set p (l.getD p d) = l := by
  apply List.ext_getElem?
  intro i
  rw [List.getElem?_set]
  by_cases c : p = i
  · subst c
    rw [if_pos rfl, if_pos hp, List.getD_eq_getElem?_getD, List.getElem?_eq_getElem hp]; rfl
  · rw [if_neg c]
theorem set_comm' {α : Type} (l : List α) {p q : Nat} (h : p ≠ q) (x y : α) : (l.set p x).set q y = (l.set q y).set p x := List.set_comm x y h
theorem detC_add {rs : List Int} {cs : List Col} {p : Nat} (u w : Col) (h : rs.length = cs.length) (hp : p < cs.length) : detC rs (cs.set p fun r => u r + w r) = detC rs (cs.set p u) + detC rs (cs.set p w) := by
  have := detC_lin u w 1 h hp
  simpa using this
/-- Two neighbours exchanged. -/
theorem detC_swap {rs : List Int} {cs : List Col} {p : Nat} (h : rs.length = cs.length) (hp : p + 1 < cs.length) (x y : Col) : detC rs ((cs.set p x).set (p + 1) y) = - detC rs ((cs.set p y).set (p + 1) x) := by
  have hz : ∀ z : Col, detC rs ((cs.set p z).set (p + 1) z) = 0 := fun z => by
    refine detC_next (p := p) (by simpa using h) (by simpa using hp) ?_
    rw [getD_set, getD_set, if_neg (by omega), getD_set, if_pos ⟨rfl, by omega⟩, if_pos ⟨rfl, by simpa using hp⟩]
  have h1 := hz fun r => x r + y r
  have a1 : ∀ z : Col, detC rs ((cs.set p fun r => x r + y r).set (p + 1) z) = detC rs ((cs.set p x).set (p + 1) z) + detC rs ((cs.set p y).set (p + 1) z) := fun z => by
    rw [set_comm' cs (by omega) _ z, detC_add x y (by simpa using h) (by rw [List.length_set]; omega), set_comm' cs (by omega) z x, set_comm' cs (by omega) z y]
  rw [detC_add x y (by simpa using h) (by simpa using hp), a1 x, a1 y, hz x, hz y] at h1
  omega
/-- Two columns are the same. -/
theorem detC_same {rs : List Int} : ∀ (d : Nat) {cs : List Col} {p : Nat}, rs.length = cs.length → p + d + 1 < cs.length → cs.getD p z0 = cs.getD (p + d + 1) z0 → detC rs cs = 0
  | 0, cs, p, h, hp, he => detC_next h hp he
  | d + 1, cs, p, h, hp, he => by
    have e : cs = (cs.set (p + d + 1) (cs.getD (p + d + 1) z0)).set (p + d + 1 + 1) (cs.getD (p + d + 2) z0) := by
      rw [set_self z0 (by omega), set_self z0 (by omega)]
    rw [e, detC_swap h (by omega), detC_same d (p := p) (by simpa using h) (by rw [List.length_set, List.length_set]; omega), Int.neg_zero]
    rw [getD_set, if_neg (by omega), getD_set, if_neg (by omega), getD_set, if_neg (by omega), getD_set, if_pos ⟨rfl, by omega⟩]
    exact he
theorem detC_null {rs : List Int} {cs : List Col} {p : Nat} (h : rs.length = cs.length) (hp : p < cs.length) : detC rs (cs.set p z0) = 0 := by
  have h1 := detC_add (p := p) z0 z0 h hp
  have e : (fun r => z0 r + z0 r) = z0 := rfl
  rw [e] at h1
  omega
/-- A column that is a sum of others. -/
theorem detC_comb {rs : List Int} {cs : List Col} {p : Nat} (h : rs.length = cs.length) (hp : p < cs.length) : ∀ (L : List (Int × Nat)), (∀ x ∈ L, x.2 < cs.length ∧ x.2 ≠ p) → detC rs (cs.set p fun r => (L.map fun x => x.1 * (cs.getD x.2 z0) r).sum) = 0
  | [], _ => detC_null h hp
  | x :: L, hL => by
    have hx := hL x List.mem_cons_self
    have e : (fun r => ((x :: L).map fun y => y.1 * (cs.getD y.2 z0) r).sum) = fun r => (L.map fun y => y.1 * (cs.getD y.2 z0) r).sum + x.1 * (cs.getD x.2 z0) r := by
      funext r
      rw [List.map_cons, List.sum_cons, Int.add_comm]
    rw [e, detC_lin _ _ _ h hp, detC_comb h hp L fun y hy => hL y (List.mem_cons_of_mem _ hy)]
    have : detC rs (cs.set p (cs.getD x.2 z0)) = 0 := by
      by_cases c : x.2 < p
      · refine detC_same (p - x.2 - 1) (p := x.2) (by simpa using h) (by rw [List.length_set]; omega) ?_
        rw [getD_set, if_neg (by omega), show x.2 + (p - x.2 - 1) + 1 = p by omega, getD_set, if_pos ⟨rfl, hp⟩]
      · refine detC_same (x.2 - p - 1) (p := p) (by simpa using h) (by rw [List.length_set]; omega) ?_
        rw [show p + (x.2 - p - 1) + 1 = x.2 by omega, getD_set, if_pos ⟨rfl, hp⟩, getD_set, if_neg (by omega)]
    rw [this]
    simp
end Go.Proofs.Ytdfibdjjoplmmaa.Cf
end

section
namespace Go.Proofs.Ytdfibdjjoplmmaa.Cf
set_option linter.unusedVariables false
set_option linter.unusedSimpArgs false
open Go.RowKit Go.Proofs.YtdfibdjjoplmmaaW.PrintWords Go.Proofs.Ytdfibdjjoplmmaa.P
/-- The set bits below i. -/
def bitsB (m i : Nat) : List Int := ((List.range i).filter fun j => m.testBit j).map fun j : Nat => (j : Int)
def bitsL (m : Nat) : List Int := bitsB m 6
theorem bm_on : ∀ (m : Fin 64) (i : Fin 7), (shr .i64 (m.val : Int) (i.val : Int) > 0 ∧ i.val < 6) ∨ (¬ shr .i64 (m.val : Int) (i.val : Int) > 0 ∧ bitsB m.val i.val = bitsL m.val) := by decide
theorem bm_val : ∀ (m : Fin 64) (i : Fin 6), (Go.bits .and .i64 (shr .i64 (m.val : Int) (i.val : Int)) 1 = 1 ∧ m.val.testBit i.val = true) ∨ (Go.bits .and .i64 (shr .i64 (m.val : Int) (i.val : Int)) 1 = 0 ∧ m.val.testBit i.val = false) := by decide
theorem bitsB_succ (m i : Nat) : bitsB m (i + 1) = bitsB m i ++ (if m.testBit i then [(i : Int)] else []) := by
  unfold bitsB
  rw [List.range_succ, List.filter_append, List.map_append]
  congr 1
  by_cases c : m.testBit i = true
  · rw [if_pos c, List.filter_cons_of_pos (by simpa using c)]; rfl
  · rw [if_neg c, List.filter_cons_of_neg (by simpa using c)]; rfl
theorem bitsB_len (m i : Nat) : (bitsB m i).length ≤ i := by
  unfold bitsB
  rw [List.length_map]
  exact Nat.le_trans (List.length_filter_le _ _) (by simp)
set_option maxRecDepth 100000 in
theorem bm_drop : ∀ (m : Fin 64) (i : Fin 6), m.val.testBit i.val = true → ∃ m' : Fin 64, Go.bits .andNot .i64 (m.val : Int) (shl .i64 1 (i.val : Int)) = (m'.val : Int) ∧ bitsL m'.val = (bitsL m.val).eraseIdx (bitsB m.val i.val).length ∧ (bitsL m.val)[(bitsB m.val i.val).length]? = some (i.val : Int) ∧ m'.val ≤ m.val := by decide
theorem bm_all : ∀ (m : Fin 64) (i : Fin 7), m.val < 2 ^ i.val → bitsB m.val i.val = bitsL m.val := by decide
theorem bm_full0 : ∀ i : Fin 7, bitsL (2 ^ i.val - 1) = (List.range i.val).map (fun j : Nat => (j : Int)) ∧ shl .i64 1 (i.val : Int) = ((2 ^ i.val : Nat) : Int) ∧ (2 ^ i.val - 1 : Nat) < 64 ∧ 0 < 2 ^ i.val := by decide
theorem bm_full {i : Nat} (hi : i < 7) : bitsL (2 ^ i - 1) = (List.range i).map (fun j : Nat => (j : Int)) ∧ wrap64 (shl .i64 1 (i : Int) - 1) = ((2 ^ i - 1 : Nat) : Int) ∧ shl .i64 1 (i : Int) = ((2 ^ i : Nat) : Int) ∧ (2 ^ i - 1 : Nat) < 64 := by
  obtain ⟨h1, h2, h3, h4⟩ := bm_full0 ⟨i, hi⟩
  simp only at h1 h2 h3 h4
  refine ⟨h1, ?_, h2, h3⟩
  rw [h2, wrap_id (by omega) (by omega)]
  omega
theorem implBits_l0 {m : Nat} (hm : m < 64) : ∀ (d i : Nat), i + d = 6 → Ep (fun k => impl_bitsOf.l0 k (m : Int) (bitsB m i) (i : Int)) (· = bitsL m) := by
  intro d
  induction d with
  | zero =>
    intro i hi
    refine Ep.up ?_
    simp only [impl_bitsOf.l0]
    rcases bm_on ⟨m, hm⟩ ⟨i, by omega⟩ with ⟨_, h⟩ | ⟨h1, h2⟩
    · exact absurd h (by simp; omega)
    · exact Ep.pos (by omega) (Ep.neg h1 (Ep.now h2))
  | succ d ih =>
    intro i hi
    have h := ih (i + 1) (by omega)
    rw [bitsB_succ] at h
    refine Ep.up ?_
    simp only [impl_bitsOf.l0]
    rcases bm_on ⟨m, hm⟩ ⟨i, by omega⟩ with ⟨h1, _⟩ | ⟨h1, h2⟩
    · refine Ep.pos (by omega) (Ep.pos h1 ?_)
      rw [wrap_succ (by omega)]
      rcases bm_val ⟨m, hm⟩ ⟨i, by omega⟩ with ⟨b1, b2⟩ | ⟨b1, b2⟩
      · rw [if_pos b2] at h
        exact Ep.pos b1 (Ep.pos (by have := bitsB_len m i; omega) h)
      · have b1' : Go.bits .and .i64 (shr .i64 (m : Int) (i : Int)) 1 = 0 := b1
        rw [if_neg (by simpa using b2), List.append_nil] at h
        exact Ep.neg (by rw [b1']; omega) h
    · exact Ep.pos (by omega) (Ep.neg h1 (Ep.now h2))
theorem implBits {m : Nat} (hm : m < 64) : Ep (fun k => impl_bitsOf.f k (m : Int)) (· = bitsL m) := implBits_l0 hm 6 0 rfl
end Go.Proofs.Ytdfibdjjoplmmaa.Cf
end

section
namespace Go.Proofs.Ytdfibdjjoplmmaa.Cf
set_option linter.unusedVariables false
set_option linter.unusedSimpArgs false
open Go.RowKit Go.Proofs.YtdfibdjjoplmmaaW.PrintWords
/-- F of edges and of the vertices that are no roots: an edge from a root is left out, or its end becomes a root; an edge between roots counts c. -/
structure Rec (c : Int) (F : List E → List Int → Int) : Prop where
  perm : ∀ {es es' : List E} {vs : List Int}, es.Perm es' → F es vs = F es' vs
  nil : F [] [] = 1
  loop : ∀ (e : E) (es : List E) (vs : List Int), vs.Nodup → e.f0 ∉ vs → e.f1 ∉ vs → F (e :: es) vs = c * F es vs
  cut : ∀ (e : E) (es : List E) (vs : List Int) (u v : Int), (e.f0 = u ∧ e.f1 = v) ∨ (e.f0 = v ∧ e.f1 = u) → (∀ x ∈ es, x.f0 ≠ x.f1) → vs.Nodup → v ∈ vs → u ∉ vs → F (e :: es) vs = F es vs + F es (vs.erase v)
  far : ∀ (es : List E) (vs : List Int), (∀ x ∈ es, x.f0 ≠ x.f1) → vs.Nodup → vs ≠ [] → (∀ e ∈ es, e.f0 ∈ vs ↔ e.f1 ∈ vs) → F es vs = 0
/-- What holds of a value along the recursion. -/
structure RecR (c : Int) (R : List E → List Int → Int → Prop) : Prop where
  perm : ∀ {es es' : List E} {vs : List Int} {k : Int}, es.Perm es' → R es vs k → R es' vs k
  nil : R [] [] 1
  loop : ∀ (e : E) (es : List E) (vs : List Int) (k : Int), vs.Nodup → e.f0 ∉ vs → e.f1 ∉ vs → R es vs k → R (e :: es) vs (c * k)
  cut : ∀ (e : E) (es : List E) (vs : List Int) (u v k k' : Int), (e.f0 = u ∧ e.f1 = v) ∨ (e.f0 = v ∧ e.f1 = u) → (∀ x ∈ es, x.f0 ≠ x.f1) → vs.Nodup → v ∈ vs → u ∉ vs → R es vs k → R es (vs.erase v) k' → R (e :: es) vs (k + k')
  far : ∀ (es : List E) (vs : List Int), (∀ x ∈ es, x.f0 ≠ x.f1) → vs.Nodup → vs ≠ [] → (∀ e ∈ es, e.f0 ∈ vs ↔ e.f1 ∈ vs) → R es vs 0
theorem RecR.of {c : Int} {F : List E → List Int → Int} {R : List E → List Int → Int → Prop} (hF : Rec c F) (hR : RecR c R) : ∀ (m : Nat) (es : List E) (vs : List Int), es.length = m → (∀ x ∈ es, x.f0 ≠ x.f1) → vs.Nodup → R es vs (F es vs) := by
  intro m
  induction m with
  | zero =>
    intro es vs hm hl hn
    obtain rfl := List.length_eq_zero_iff.1 hm
    by_cases h : vs = []
    · rw [h, hF.nil]; exact hR.nil
    · rw [hF.far [] vs hl hn h (fun e he => by cases he)]; exact hR.far [] vs hl hn h (fun e he => by cases he)
  | succ m ih =>
    intro es vs hm hl hn
    by_cases h : ∃ e ∈ es, ∃ u v : Int, ((e.f0 = u ∧ e.f1 = v) ∨ (e.f0 = v ∧ e.f1 = u)) ∧ v ∈ vs ∧ u ∉ vs
    · obtain ⟨e, he, u, v, huv, hv, hu⟩ := h
      obtain ⟨l1, l2, rfl⟩ := List.append_of_mem he
      have hp : (l1 ++ e :: l2).Perm (e :: (l1 ++ l2)) := List.perm_middle
      have hl' : ∀ x ∈ l1 ++ l2, x.f0 ≠ x.f1 := fun x hx => hl x (by simp at hx ⊢; rcases hx with h | h <;> simp [h])
      have hm' : (l1 ++ l2).length = m := by simp at hm ⊢; omega
      rw [hF.perm hp, hF.cut e _ vs u v huv hl' hn hv hu]
      exact hR.perm hp.symm (hR.cut e _ vs u v _ _ huv hl' hn hv hu (ih _ vs hm' hl' hn) (ih _ (vs.erase v) hm' hl' (hn.erase v)))
    · have hfar : ∀ e ∈ es, e.f0 ∈ vs ↔ e.f1 ∈ vs := fun e he => ⟨fun h0 => Classical.byContradiction fun h1 => h ⟨e, he, e.f1, e.f0, .inr ⟨rfl, rfl⟩, h0, h1⟩, fun h1 => Classical.byContradiction fun h0 => h ⟨e, he, e.f0, e.f1, .inl ⟨rfl, rfl⟩, h1, h0⟩⟩
      by_cases hv : vs = []
      · subst hv
        cases es with
        | nil => simp at hm
        | cons e es =>
          rw [hF.loop e es [] (by simp) (by simp) (by simp)]
          exact hR.loop e es [] _ (by simp) (by simp) (by simp) (ih es [] (by simpa using hm) (fun x hx => hl x (List.mem_cons_of_mem _ hx)) hn)
      · rw [hF.far es vs hl hn hv hfar]
        exact hR.far es vs hl hn hv hfar
theorem Rec.unique {c : Int} {F G : List E → List Int → Int} (hF : Rec c F) (hG : Rec c G) {es : List E} {vs : List Int} (hl : ∀ x ∈ es, x.f0 ≠ x.f1) (hn : vs.Nodup) : G es vs = F es vs :=
  RecR.of hF (R := fun es vs k => G es vs = k) ⟨fun h k => (hG.perm h).symm.trans k, hG.nil, fun e es vs k hn h0 h1 h => by rw [hG.loop e es vs hn h0 h1, h], fun e es vs u v k k' huv hl hn hv hu h h' => by rw [hG.cut e es vs u v huv hl hn hv hu, h, h'], hG.far⟩ es.length es vs rfl hl hn
def unitC (v : Int) : Col := fun r => if r = v then 1 else 0
theorem detC_unit {v : Int} : ∀ {rs : List Int} {cs : List Col} {i p : Nat}, rs.length = cs.length → p < cs.length → rs.Nodup → rs[i]? = some v → detC rs (cs.set p (unitC v)) = sg (i + p) * detC (rs.eraseIdx i) (cs.eraseIdx p)
  | [], _, i, p, h, hp, _, hi => by simp at hi
  | r :: rs, cs, 0, p, h, hp, hn, hi => by
    obtain rfl : r = v := by simpa using hi
    have hv : r ∉ rs := (List.nodup_cons.1 hn).1
    obtain ⟨n, hcn⟩ : ∃ n, cs.length = n + 1 := ⟨cs.length - 1, by omega⟩
    have hrl : rs.length = n := by simp at h; omega
    have hz : ∀ k, k < cs.length → k ≠ p → detC rs ((cs.set p (unitC r)).eraseIdx k) = 0 := fun k hk hkp => by
      have hl : (cs.eraseIdx k).length = cs.length - 1 := by rw [List.length_eraseIdx, if_pos hk]
      have key : ∀ q : Nat, q < (cs.eraseIdx k).length → detC rs ((cs.eraseIdx k).set q (unitC r)) = 0 := fun q hq => by
        rw [← detC_null (rs := rs) (cs := cs.eraseIdx k) (p := q) (by omega) hq]
        refine detC_congr (by simp) fun j hj s hs => ?_
        rw [getD_set, getD_set]
        split
        · show (if s = r then (1 : Int) else 0) = 0
          rw [if_neg (fun e : s = r => hv (e ▸ hs))]
        · rfl
      by_cases d : k < p
      · rw [erase_set_lt _ d]; exact key _ (by omega)
      · rw [erase_set_gt _ (by omega)]; exact key _ (by omega)
    show alt (cs.set p (unitC r)).length (fun i => ((cs.set p (unitC r)).getD i z0) r * detC rs ((cs.set p (unitC r)).eraseIdx i)) = sg (0 + p) * detC rs (cs.eraseIdx p)
    rw [List.length_set, hcn, alt_split p n _ (by omega), alt_zero fun k hk => ?_]
    · rw [getD_set, if_pos ⟨rfl, hp⟩, erase_set_self]
      show sg p * ((if r = r then (1 : Int) else 0) * detC rs (cs.eraseIdx p)) + 0 = sg (0 + p) * detC rs (cs.eraseIdx p)
      rw [if_pos rfl, Int.one_mul, Int.add_zero, Nat.zero_add]
    · split
      · rw [hz k (by omega) (by omega), Int.mul_zero]
      · rw [hz (k + 1) (by omega) (by omega), Int.mul_zero]; rfl
  | r :: rs, cs, i + 1, p, h, hp, hn, hi => by
    have hi' : rs[i]? = some v := by simpa using hi
    have hrv : r ≠ v := fun e => (List.nodup_cons.1 hn).1 (e ▸ List.mem_of_getElem? hi')
    obtain ⟨n, hcn⟩ : ∃ n, cs.length = n + 1 := ⟨cs.length - 1, by omega⟩
    have hrl : rs.length = n := by simp at h; omega
    have hcp : (cs.eraseIdx p).length = n := by rw [List.length_eraseIdx, if_pos hp]; omega
    rw [List.eraseIdx_cons_succ]
    show alt (cs.set p (unitC v)).length (fun k => ((cs.set p (unitC v)).getD k z0) r * detC rs ((cs.set p (unitC v)).eraseIdx k)) = sg (i + 1 + p) * alt (cs.eraseIdx p).length (fun k => ((cs.eraseIdx p).getD k z0) r * detC (rs.eraseIdx i) ((cs.eraseIdx p).eraseIdx k))
    rw [List.length_set, hcn, hcp, alt_split p n _ (by omega), getD_set, if_pos ⟨rfl, hp⟩, ← alt_mul]
    have e0 : unitC v r = 0 := if_neg hrv
    rw [e0, Int.zero_mul, Int.mul_zero, Int.zero_add]
    refine alt_congr fun k hk => ?_
    by_cases d : k < p
    · have hl : (cs.eraseIdx k).length = n := by rw [List.length_eraseIdx, if_pos (by omega)]; omega
      rw [if_pos d, getD_set, if_neg (by omega), erase_set_lt _ d, detC_unit (by omega) (by omega) (List.nodup_cons.1 hn).2 hi', erase_erase _ d, getD_erase, if_pos d]
      have hs : sg (i + (p - 1)) = sg (i + 1 + p) := by rw [show i + 1 + p = i + (p - 1) + 2 by omega, sg_two]
      rw [hs, Int.mul_left_comm]
    · have hl : (cs.eraseIdx (k + 1)).length = n := by rw [List.length_eraseIdx, if_pos (by omega)]; omega
      have he := erase_erase cs (j := k + 1) (k := p) (by omega)
      rw [if_neg d, getD_set, if_neg (by omega), erase_set_gt _ (by omega), detC_unit (by omega) (by omega) (List.nodup_cons.1 hn).2 hi', ← he, getD_erase, if_neg d, show k + 1 - 1 = k by omega]
      have hs : sg (i + 1 + p) = - sg (i + p) := by rw [show i + 1 + p = (i + p) + 1 by omega]; rfl
      rw [hs, Int.mul_left_comm, Int.neg_mul]
def lapM (es : List E) (r c : Int) : Int := if r = c then val es r else - mult es r c
def dlap (es : List E) (vs : List Int) : Int := detC vs (vs.map fun c r => lapM es r c)
theorem sumE_perm {es es' : List E} (h : es.Perm es') (f : E → Int) : sumE es f = sumE es' f := by
  induction h with
  | nil => rfl
  | cons x _ ih => rw [sumE_cons, sumE_cons, ih]
  | swap x y l => rw [sumE_cons, sumE_cons, sumE_cons, sumE_cons]; omega
  | trans _ _ h1 h2 => exact h1.trans h2
theorem lapM_perm {es es' : List E} (h : es.Perm es') : lapM es = lapM es' := by
  funext r c
  unfold lapM val mult
  rw [sumE_perm h, sumE_perm h]
theorem lapM_cons (e : E) (es : List E) (r c : Int) : lapM (e :: es) r c = (if r = c then valE r e else - multE r c e) + lapM es r c := by
  unfold lapM val mult
  rw [sumE_cons, sumE_cons]
  split <;> omega
theorem getD_map {α β : Type} (f : α → β) (l : List α) (i : Nat) (d : α) (d' : β) (h : i < l.length) : (l.map f).getD i d' = f (l.getD i d) := by
  rw [List.getD_eq_getElem?_getD, List.getElem?_map, List.getD_eq_getElem?_getD, List.getElem?_eq_getElem h]
  rfl
theorem getD_mem {α : Type} {l : List α} {i : Nat} (d : α) (h : i < l.length) : l.getD i d ∈ l := by
  rw [List.getD_eq_getElem?_getD, List.getElem?_eq_getElem h]
  exact List.getElem_mem h
theorem map_eraseIdx {α β : Type} (f : α → β) (l : List α) (i : Nat) : (l.map f).eraseIdx i = (l.eraseIdx i).map f := by
  apply List.ext_getElem?
  intro k
  simp only [List.getElem?_eraseIdx, List.getElem?_map]
  split <;> rfl
/-- Only what it says on vs. -/
theorem dlap_congr {es es' : List E} {vs : List Int} (h : ∀ r ∈ vs, ∀ c ∈ vs, lapM es r c = lapM es' r c) : dlap es vs = dlap es' vs := by
  unfold dlap
  refine detC_congr (by simp) fun i hi r hr => ?_
  rw [List.length_map] at hi
  rw [getD_map _ _ _ (0 : Int) _ hi, getD_map _ _ _ (0 : Int) _ hi]
  exact h r hr _ (getD_mem _ hi)
theorem nodup_idx {l : List Int} (hn : l.Nodup) {i j : Nat} (hi : i < l.length) (hj : j < l.length) (h : l.getD i 0 = l.getD j 0) : i = j := by
  rw [List.getD_eq_getElem?_getD, List.getD_eq_getElem?_getD, List.getElem?_eq_getElem hi, List.getElem?_eq_getElem hj] at h
  simp only [Option.getD_some] at h
  apply Classical.byContradiction
  intro hne
  rcases Nat.lt_or_gt_of_ne hne with hlt | hlt
  · exact List.pairwise_iff_getElem.1 hn i j hi hj hlt h
  · exact List.pairwise_iff_getElem.1 hn j i hj hi hlt h.symm
theorem dlap_cut (e : E) (es : List E) {vs : List Int} {u v : Int} (huv : (e.f0 = u ∧ e.f1 = v) ∨ (e.f0 = v ∧ e.f1 = u)) (hn : vs.Nodup) (hv : v ∈ vs) (hu : u ∉ vs) : dlap (e :: es) vs = dlap es vs + dlap es (vs.erase v) := by
  obtain ⟨p, hp, hpv⟩ := List.getElem_of_mem hv
  have hpd : vs.getD p 0 = v := by rw [List.getD_eq_getElem?_getD, List.getElem?_eq_getElem hp]; exact hpv
  have hml : (vs.map fun c r => lapM es r c).length = vs.length := by simp
  have e1 : dlap (e :: es) vs = detC vs ((vs.map fun c r => lapM es r c).set p fun r => (fun r => lapM es r v) r + unitC v r) := by
    unfold dlap
    refine detC_congr (by simp) fun i hi r hr => ?_
    rw [List.length_map] at hi
    rw [getD_map _ _ _ (0 : Int) _ hi, getD_set, hml]
    have hru : r ≠ u := fun x => hu (x ▸ hr)
    have hcu : vs.getD i 0 ≠ u := fun x => hu (x ▸ getD_mem 0 hi)
    by_cases c : i = p
    · rw [if_pos ⟨c, hp⟩, c, hpd, lapM_cons]
      show _ = lapM es r v + (if r = v then 1 else 0)
      by_cases d : r = v
      · rw [if_pos d, if_pos d, d]
        have : valE v e = 1 := by unfold valE; rw [if_pos]; rcases huv with h | h <;> omega
        omega
      · rw [if_neg d, if_neg d]
        have : multE r v e = 0 := by unfold multE; rw [if_neg]; rcases huv with h | h <;> omega
        omega
    · rw [if_neg (fun x => c x.1), getD_map _ _ _ (0 : Int) _ hi, lapM_cons]
      have hcv : vs.getD i 0 ≠ v := fun x => c (nodup_idx hn hi hp (x.trans hpd.symm))
      generalize vs.getD i 0 = w at hcu hcv
      by_cases d : r = w
      · rw [if_pos d]
        have : valE r e = 0 := by unfold valE; rw [if_neg]; rcases huv with h | h <;> omega
        omega
      · rw [if_neg d]
        have : multE r w e = 0 := by unfold multE; rw [if_neg]; rcases huv with h | h <;> omega
        omega
  have e2 : (vs.map fun c r => lapM es r c).set p (fun r => lapM es r v) = vs.map fun c r => lapM es r c := by
    have := set_self (l := vs.map fun c r => lapM es r c) z0 (by rw [hml]; exact hp)
    rw [getD_map _ _ _ (0 : Int) _ hp, hpd] at this
    exact this
  have e3 : vs.eraseIdx p = vs.erase v := by
    rw [List.erase_eq_eraseIdx_of_idxOf]
    rw [← hpv]
    exact List.Nodup.idxOf_getElem hn p hp
  rw [e1, detC_add _ _ (by simp) (by rw [hml]; exact hp), e2, detC_unit (by simp) (by rw [hml]; exact hp) hn (i := p) (by rw [List.getElem?_eq_getElem hp, hpv]), sg_even, Int.one_mul, map_eraseIdx, e3]
  rfl
theorem sum_neg' (l : List Int) (f : Int → Int) : (l.map fun x => - f x).sum = - (l.map f).sum := by
  induction l with
  | nil => rfl
  | cons x l ih => rw [List.map_cons, List.sum_cons, List.map_cons, List.sum_cons, ih]; omega
theorem sum_zero' (l : List Int) {f : Int → Int} (h : ∀ x ∈ l, f x = 0) : (l.map f).sum = 0 := by
  induction l with
  | nil => rfl
  | cons x l ih => rw [List.map_cons, List.sum_cons, h x List.mem_cons_self, ih fun y hy => h y (List.mem_cons_of_mem _ hy)]; rfl
/-- No edge to the roots: each row adds up to nothing. -/
theorem lapM_sum {vs : List Int} (hn : vs.Nodup) {r : Int} (hr : r ∈ vs) : ∀ {es : List E}, (∀ x ∈ es, x.f0 ≠ x.f1) → (∀ e ∈ es, e.f0 ∈ vs ↔ e.f1 ∈ vs) → (vs.map fun c => lapM es r c).sum = 0
  | [], _, _ => sum_zero' _ fun x _ => by
    unfold lapM val mult
    rw [sumE_nil, sumE_nil]
    split <;> rfl
  | e :: es, hl, hf => by
    have ih := lapM_sum hn hr (es := es) (fun x hx => hl x (List.mem_cons_of_mem _ hx)) fun x hx => hf x (List.mem_cons_of_mem _ hx)
    have h0 := hl e List.mem_cons_self
    have h1 := hf e List.mem_cons_self
    have ha := sum_add vs (fun c => if r = c then valE r e else - multE r c e) (fun c => lapM es r c)
    simp only [← lapM_cons] at ha
    rw [ha, ih, Int.add_zero]
    have two : ∀ x, x ≠ r → x ∈ vs → (∀ c, multE r c e = if c = x then 1 else 0) → valE r e = 1 → (vs.map fun c => if r = c then valE r e else - multE r c e).sum = 0 := by
      intro x hx hxv hm hv
      have e1 : (vs.map fun c => if r = c then valE r e else - multE r c e) = vs.map fun c => (if r = c then (1 : Int) else 0) + - (if x = c then 1 else 0) := by
        refine List.map_congr_left fun c _ => ?_
        by_cases d : r = c
        · rw [if_pos d, if_pos d, if_neg (show ¬ x = c by omega), hv]; rfl
        · rw [if_neg d, if_neg d, hm c]
          by_cases d2 : c = x
          · rw [if_pos d2, if_pos d2.symm]; rfl
          · rw [if_neg d2, if_neg (fun q => d2 q.symm)]; rfl
      rw [e1, sum_add vs (fun c => if r = c then (1 : Int) else 0) (fun c => - (if x = c then 1 else 0)), sum_neg' vs (fun c => if x = c then 1 else 0), sum_ind r vs hn, sum_ind x vs hn, if_pos hr, if_pos hxv]
      rfl
    by_cases a : e.f0 = r
    · refine two e.f1 (by omega) (h1.1 (a ▸ hr)) (fun c => ?_) (by unfold valE; rw [if_pos (.inl a)])
      unfold multE
      by_cases d : c = e.f1
      · rw [if_pos d, if_pos (.inl ⟨a, d.symm⟩)]
      · rw [if_neg d, if_neg (by omega)]
    · by_cases b : e.f1 = r
      · refine two e.f0 a (h1.2 (b ▸ hr)) (fun c => ?_) (by unfold valE; rw [if_pos (.inr b)])
        unfold multE
        by_cases d : c = e.f0
        · rw [if_pos d, if_pos (.inr ⟨d.symm, b⟩)]
        · rw [if_neg d, if_neg (by omega)]
      · refine sum_zero' _ fun c _ => ?_
        have e1 : valE r e = 0 := by unfold valE; rw [if_neg (by omega)]
        have e2 : multE r c e = 0 := by unfold multE; rw [if_neg (by omega)]
        rw [e1, e2]
        split <;> rfl
theorem dlap_far {es : List E} {vs : List Int} (hl : ∀ x ∈ es, x.f0 ≠ x.f1) (hn : vs.Nodup) (hv : vs ≠ []) (hf : ∀ e ∈ es, e.f0 ∈ vs ↔ e.f1 ∈ vs) : dlap es vs = 0 := by
  cases vs with
  | nil => exact absurd rfl hv
  | cons v vs =>
    have hc := detC_comb (rs := v :: vs) (cs := (v :: vs).map fun c r => lapM es r c) (p := 0) (by simp) (by simp) ((List.range vs.length).map fun j => (-1, j + 1)) (fun x hx => by
      obtain ⟨j, hj, rfl⟩ := List.mem_map.1 hx
      have := List.mem_range.1 hj
      simp
      omega)
    rw [← hc]
    unfold dlap
    refine detC_congr (by simp) fun i hi r hr => ?_
    rw [List.length_map] at hi
    rw [getD_set]
    by_cases c : i = 0
    · rw [if_pos ⟨c, by simp⟩, c, getD_map _ _ _ (0 : Int) _ (by simp)]
      have hs := lapM_sum hn hr hl hf
      rw [List.map_cons, List.sum_cons] at hs
      show lapM es r v = _
      have e1 : (((List.range vs.length).map fun j => ((-1 : Int), j + 1)).map fun x => x.1 * (((v :: vs).map fun c r => lapM es r c).getD x.2 z0) r) = vs.map fun c => - lapM es r c := by
        rw [List.map_map]
        apply List.ext_getElem (by simp)
        intro j h1 h2
        have hj : j < vs.length := by simpa using h2
        simp [List.getD, hj]
      rw [e1, sum_neg' vs (fun c => lapM es r c)]
      omega
    · rw [if_neg (fun x => c x.1)]
theorem dlap_rec : Rec 1 dlap where
  perm := fun h => by unfold dlap; rw [lapM_perm h]
  nil := rfl
  loop := fun e es vs _ h0 h1 => by
    rw [Int.one_mul]
    refine dlap_congr fun r hr c hc => ?_
    rw [lapM_cons]
    have a : e.f0 ≠ r := fun x => h0 (x ▸ hr)
    have b : e.f1 ≠ r := fun x => h1 (x ▸ hr)
    have e1 : valE r e = 0 := by unfold valE; rw [if_neg (by omega)]
    have e2 : multE r c e = 0 := by unfold multE; rw [if_neg (by omega)]
    rw [e1, e2]
    split <;> omega
  cut := fun e es vs u v huv _ hn hv hu => dlap_cut e es huv hn hv hu
  far := fun es vs hl hn hv hf => dlap_far hl hn hv hf
end Go.Proofs.Ytdfibdjjoplmmaa.Cf
end

section
namespace Go.Proofs.Ytdfibdjjoplmmaa.Cf
set_option linter.unusedVariables false
set_option linter.unusedSimpArgs false
open Go.RowKit Go.Proofs.YtdfibdjjoplmmaaW.PrintWords Go.Proofs.Ytdfibdjjoplmmaa.P
theorem forall_drop' {α : Type} {l : List α} {P : α → Prop} {i : Nat} (h : i < l.length) : (∀ e ∈ l.drop i, P e) ↔ (P l[i] ∧ ∀ e ∈ l.drop (i + 1), P e) := by
  rw [List.drop_eq_getElem_cons h]
  simp only [List.mem_cons, forall_eq_or_imp]
theorem implGraph (n : Int) (es : List E) : impl_GraphOk.f n es = some (gOk n es) := rfl
theorem gOk_true {n : Int} {es : List E} (h : gOk n es = true) : GOk n es := gOk_iff.1 h
theorem gOk_false {n : Int} {es : List E} (h : ¬ gOk n es = true) : ¬ GOk n es := fun x => h (gOk_iff.2 x)
theorem allWithin_l0 (a b : Int) (l : List Int) (hl : l.length ≤ 1048576) : ∀ (d i : Nat), i + d = l.length → Ep (fun k => impl_allWithin.l0 k a b l (l.length : Int) (i : Int)) (· = decide (∀ x ∈ l.drop i, a ≤ x ∧ x ≤ b)) := by
  intro d
  induction d with
  | zero =>
    intro i hi
    refine Ep.up ?_
    simp only [impl_allWithin.l0]
    refine Ep.neg (by omega) (Ep.now ?_)
    rw [List.drop_of_length_le (by omega)]
    simp
  | succ d ih =>
    intro i hi
    have hlt : i < l.length := by omega
    refine Ep.up ?_
    simp only [impl_allWithin.l0]
    refine Ep.pos (by omega) (Ep.pos (by omega) (Ep.pos (by omega) ?_))
    rw [rd_get hlt, wrap_succ (by omega)]
    refine Ep.bind0 (within_eq _ _ _) ?_
    refine Ep.ite (fun h => ?_) (fun h => Ep.now ?_)
    · have h' : a ≤ l[i] ∧ l[i] ≤ b := by simpa using h
      refine (ih (i + 1) (by omega)).mono ?_
      rintro _ rfl
      simp only [forall_drop' hlt, h', true_and]
    · have h' : ¬ (a ≤ l[i] ∧ l[i] ≤ b) := by simpa using h
      simp only [forall_drop' hlt, h', false_and, decide_false]
theorem allWithin_ok (l : List Int) (a b : Int) (hl : l.length ≤ 1048576) : Ep (fun k => impl_allWithin.f k l a b) (· = decide (∀ x ∈ l, a ≤ x ∧ x ≤ b)) := by
  have := allWithin_l0 a b l hl l.length 0 (by omega)
  simp only [impl_allWithin.f]
  rw [List.drop_zero] at this
  exact this
theorem isVertex_eq (n : Int) (es : List E) (v : Int) (hn : Wf .i64 n) : impl_isVertex.f n es v = some (gOk n es && decide (0 ≤ v ∧ v < n)) := by
  unfold impl_isVertex.f
  rw [implGraph]
  simp only [Option.bind_some]
  by_cases h : gOk n es = true
  · have h1 := (gOk_true h).1.1
    have h6 := (gOk_true h).1.2.1
    rw [if_pos h, wrap_id (by omega) (by omega), within_eq, h]
    simp only [Option.bind_some, Bool.true_and]
    have : (0 ≤ v ∧ v ≤ n - 1) ↔ (0 ≤ v ∧ v < n) := by omega
    simp only [this]
  · rw [if_neg h]
    have : gOk n es = false := by simpa using h
    rw [this]
    rfl
/-- The edge with this index is at v. -/
def At (es : List E) (k v : Int) : Prop := ∃ j : Nat, k = j ∧ ∃ h : j < es.length, es[j].f0 = v ∨ es[j].f1 = v
theorem At.of {es : List E} {j : Nat} {v : Int} (hj : j < es.length) : At es (j : Int) v ↔ (es[j].f0 = v ∨ es[j].f1 = v) := by
  constructor
  · rintro ⟨i, hi, h, hx⟩
    have : i = j := by omega
    subst this
    exact hx
  · intro h
    exact ⟨j, rfl, hj, h⟩
/-- The valence, 0 where there is no such vertex. -/
def valG (n : Int) (es : List E) (v : Int) : Int := if 0 ≤ v ∧ v < n then val es v else 0
theorem val_drop {es : List E} {i : Nat} (h : i < es.length) (v : Int) : val (es.drop i) v = valE v es[i] + val (es.drop (i + 1)) v := by
  rw [List.drop_eq_getElem_cons h]
  exact sumE_cons _ _ _
theorem specVal_loop (v : Int) (es : List E) (hl : es.length ≤ 1048576) : ∀ (d i : Nat) (a : Int), i + d = es.length → 0 ≤ a → a ≤ i → Ep (fun k => spec_Valence.l0 k v a es (es.length : Int) (i : Int)) (· = a + val (es.drop i) v) := by
  intro d
  induction d with
  | zero =>
    intro i a hi h0 ha
    refine Ep.up ?_
    simp only [spec_Valence.l0]
    refine Ep.neg (by omega) (Ep.now ?_)
    rw [List.drop_of_length_le (by omega)]
    simp [val, sumE]
  | succ d ih =>
    intro i a hi h0 ha
    have hlt : i < es.length := by omega
    refine Ep.up ?_
    simp only [spec_Valence.l0]
    refine Ep.pos (by omega) (Ep.pos (by omega) (Ep.pos (by omega) ?_))
    rw [rdE_get hlt, wrap_succ (by omega), wrap_id (x := a + 1) (by omega) (by omega), val_drop hlt]
    refine Ep.ite (fun h => ?_) (fun h => Ep.ite (fun h2 => ?_) (fun h2 => ?_))
    · refine (ih (i + 1) (a + 1) (by omega) (by omega) (by omega)).mono ?_
      rintro _ rfl
      unfold valE
      rw [if_pos (.inl h)]
      omega
    · refine (ih (i + 1) (a + 1) (by omega) (by omega) (by omega)).mono ?_
      rintro _ rfl
      unfold valE
      rw [if_pos (.inr h2)]
      omega
    · refine (ih (i + 1) a (by omega) h0 (by omega)).mono ?_
      rintro _ rfl
      unfold valE
      rw [if_neg (by rintro (x | x); exact h x; exact h2 x)]
      omega
theorem specValence (n : Int) (es : List E) (v : Int) (hl : es.length ≤ 1048576) : Ep (fun k => spec_Valence.f k n es v) (· = valG n es v) := by
  have hv : spec_l02Vert.f n es v = some (decide (0 ≤ v ∧ v < n)) := by
    unfold spec_l02Vert.f
    by_cases h : v ≥ 0
    · rw [if_pos h]
      have : (0 ≤ v ∧ v < n) ↔ v < n := ⟨fun x => x.2, fun x => ⟨h, x⟩⟩
      simp only [this]
    · rw [if_neg h]
      have : ¬ (0 ≤ v ∧ v < n) := fun x => h x.1
      simp only [this, decide_false]
  simp only [spec_Valence.f, valG]
  refine Ep.bind0 hv (Ep.ite (fun h => ?_) (fun h => Ep.now ?_))
  · refine (specVal_loop v es hl es.length 0 0 (by omega) (by omega) (by omega)).mono ?_
    rintro _ rfl
    rw [if_pos (by simpa using h), List.drop_zero]
    omega
  · rw [if_neg (by simpa using h)]
theorem implVal_loop (v : Int) (es : List E) (hl : es.length ≤ 1048576) : ∀ (d i : Nat) (a : Int), i + d = es.length → 0 ≤ a → a ≤ i → Ep (fun k => impl_Valence.l0 k v a es (es.length : Int) (i : Int)) (· = a + val (es.drop i) v) := by
  intro d
  induction d with
  | zero =>
    intro i a hi h0 ha
    refine Ep.up ?_
    simp only [impl_Valence.l0]
    refine Ep.neg (by omega) (Ep.now ?_)
    rw [List.drop_of_length_le (by omega)]
    simp [val, sumE]
  | succ d ih =>
    intro i a hi h0 ha
    have hlt : i < es.length := by omega
    refine Ep.up ?_
    simp only [impl_Valence.l0]
    refine Ep.pos (by omega) (Ep.pos (by omega) (Ep.pos (by omega) ?_))
    rw [rdE_get hlt, wrap_succ (by omega), wrap_id (x := a + 1) (by omega) (by omega), val_drop hlt]
    refine Ep.ite (fun h => ?_) (fun h => Ep.ite (fun h2 => ?_) (fun h2 => ?_))
    · refine (ih (i + 1) (a + 1) (by omega) (by omega) (by omega)).mono ?_
      rintro _ rfl
      unfold valE
      rw [if_pos (.inl h)]
      omega
    · refine (ih (i + 1) (a + 1) (by omega) (by omega) (by omega)).mono ?_
      rintro _ rfl
      unfold valE
      rw [if_pos (.inr h2)]
      omega
    · refine (ih (i + 1) a (by omega) h0 (by omega)).mono ?_
      rintro _ rfl
      unfold valE
      rw [if_neg (by rintro (x | x); exact h x; exact h2 x)]
      omega
theorem implValence (n : Int) (es : List E) (v : Int) (hl : es.length ≤ 1048576) : Ep (fun k => impl_Valence.f k n es v) (· = valG n es v) := by
  simp only [impl_Valence.f, valG]
  refine Ep.ite (fun h => ?_) (fun h => ?_)
  · refine Ep.up ?_
    simp only [impl_Valence.j0]
    refine Ep.pos trivial (Ep.now ?_)
    rw [if_neg (by omega)]
  · refine Ep.up ?_
    simp only [impl_Valence.j0]
    refine Ep.ite (fun h2 => Ep.now ?_) (fun h2 => ?_)
    · have : v ≥ n := by simpa using h2
      rw [if_neg (by omega)]
    · have : ¬ v ≥ n := by simpa using h2
      refine (implVal_loop v es hl es.length 0 0 (by omega) (by omega) (by omega)).mono ?_
      rintro _ rfl
      rw [if_pos (by omega), List.drop_zero]
      omega
end Go.Proofs.Ytdfibdjjoplmmaa.Cf
end

section
namespace Go.Proofs.Ytdfibdjjoplmmaa.Cf
set_option linter.unusedVariables false
set_option linter.unusedSimpArgs false
open Go.Proofs.YtdfibdjjoplmmaaW.PrintWords
theorem valG_in {n : Int} {es : List E} {v : Int} (h : 0 ≤ v ∧ v < n) : valG n es v = val es v := by
  unfold valG
  rw [if_pos h]
end Go.Proofs.Ytdfibdjjoplmmaa.Cf
end

section
namespace Go.Proofs.Ytdfibdjjoplmmaa.Cf
set_option linter.unusedVariables false
set_option linter.unusedSimpArgs false
open Go.RowKit Go.Proofs.YtdfibdjjoplmmaaW.PrintWords Go.Proofs.Ytdfibdjjoplmmaa.P
/-- Where the graph is valid. -/
structure Gr (n : Nat) (es : List E) (q : Int) : Prop where
  n1 : 1 ≤ n
  n6 : n ≤ 6
  hes : ∀ e ∈ es, EOk n e
  hel : es.length ≤ 12
  hj : Joined n es
  hq : 0 ≤ q ∧ q < n
theorem Gr.of {n : Nat} {es : List E} {q : Int} (h : GOk (n : Int) es) (hq : 0 ≤ q ∧ q < n) : Gr n es q := by
  obtain ⟨h1, _, h3⟩ := h
  unfold EsOk at h1
  exact ⟨by omega, by omega, h1.2.2.2, h1.2.2.1, h3, hq⟩
end Go.Proofs.Ytdfibdjjoplmmaa.Cf
end

section
namespace Go.Proofs.Ytdfibdjjoplmmaa.Cf
set_option linter.unusedVariables false
set_option linter.unusedSimpArgs false
open Go.RowKit Go.Proofs.YtdfibdjjoplmmaaW.PrintWords Go.Proofs.YtdfibdjjoplmmaaW.PrintMore Go.Proofs.Ytdfibdjjoplmmaa.P
theorem multE_alt {n : Int} {e : E} (h : EOk n e) {a b : Int} (hab : a ≠ b) : multE a b e = if e.f0 = mn a b ∧ e.f1 = mx a b then 1 else 0 := by
  unfold EOk at h
  unfold multE mn mx
  by_cases c : b < a
  · rw [if_pos c, if_neg (show ¬ a < b by omega)]
    by_cases x : e.f0 = b ∧ e.f1 = a
    · rw [if_pos (.inr x), if_pos x]
    · rw [if_neg (by omega), if_neg x]
  · rw [if_neg c, if_pos (show a < b by omega)]
    by_cases x : e.f0 = a ∧ e.f1 = b
    · rw [if_pos (.inl x), if_pos x]
    · rw [if_neg (by omega), if_neg x]
theorem mult_self {n : Int} {es : List E} (hes : ∀ e ∈ es, EOk n e) (a : Int) : mult es a a = 0 := by
  apply sumE_zero
  intro e he
  have h := hes e he
  unfold EOk at h
  unfold multE
  rw [if_neg (by omega)]
theorem mult_drop {es : List E} {i : Nat} (h : i < es.length) (a b : Int) : mult (es.drop i) a b = multE a b es[i] + mult (es.drop (i + 1)) a b := by
  rw [List.drop_eq_getElem_cons h]
  exact sumE_cons _ _ _
theorem specMult_l0 (n : Int) (es : List E) (hes : ∀ e ∈ es, EOk n e) (hel : es.length ≤ 12) (a b : Int) (hab : a ≠ b) : ∀ (d i : Nat) (c : Int), i + d = es.length → 0 ≤ c → c ≤ i → Ep (fun k => spec_Multiplicity.l0 k a b c es (es.length : Int) (i : Int)) (· = c + mult (es.drop i) a b) := by
  intro d
  induction d with
  | zero =>
    intro i c hi h0 h1
    refine Ep.up ?_
    simp only [spec_Multiplicity.l0]
    refine Ep.neg (by omega) (Ep.now ?_)
    rw [List.drop_of_length_le (by omega)]
    simp [mult, sumE]
  | succ d ih =>
    intro i c hi h0 h1
    have hlt : i < es.length := by omega
    have hk := hes _ (List.getElem_mem hlt)
    refine Ep.up ?_
    simp only [spec_Multiplicity.l0]
    refine Ep.pos (by omega) (Ep.pos (by omega) (Ep.pos (by omega) ?_))
    rw [rdE_get hlt, wrap_succ (by omega), wrap_id (x := c + 1) (by omega) (by omega), mult_drop hlt, multE_alt hk hab]
    refine Ep.ite (fun h => Ep.ite (fun h2 => ?_) (fun h2 => ?_)) (fun h => ?_)
    · rw [if_pos ⟨h, h2⟩]
      refine (ih (i + 1) (c + 1) (by omega) (by omega) (by omega)).mono ?_
      rintro _ rfl
      omega
    · rw [if_neg (fun x => h2 x.2)]
      refine (ih (i + 1) c (by omega) (by omega) (by omega)).mono ?_
      rintro _ rfl
      omega
    · rw [if_neg (fun x => h x.1)]
      refine (ih (i + 1) c (by omega) (by omega) (by omega)).mono ?_
      rintro _ rfl
      omega
theorem l02Vert_eq (n : Int) (es : List E) (v : Int) : spec_l02Vert.f n es v = some (decide (0 ≤ v ∧ v < n)) := by
  unfold spec_l02Vert.f
  by_cases h : v ≥ 0
  · rw [if_pos h]
    have : (0 ≤ v ∧ v < n) ↔ v < n := ⟨fun x => x.2, fun x => ⟨h, x⟩⟩
    simp only [this]
  · rw [if_neg h]
    have : ¬ (0 ≤ v ∧ v < n) := fun x => h x.1
    simp only [this, decide_false]
theorem specMult (n : Int) (es : List E) (hes : ∀ e ∈ es, EOk n e) (hel : es.length ≤ 12) (a b : Int) (ha : 0 ≤ a ∧ a < n) (hb : 0 ≤ b ∧ b < n) : Ep (fun k => spec_Multiplicity.f k n es a b) (· = mult es a b) := by
  simp only [spec_Multiplicity.f]
  refine Ep.bind0 (l02Vert_eq _ _ _) (Ep.pos (by simpa using ha) (Ep.bind0 (l02Vert_eq _ _ _) (Ep.pos (by simpa using hb) ?_)))
  refine Ep.up ?_
  simp only [spec_Multiplicity.j0]
  refine Ep.ite (fun h => Ep.now ?_) (fun h => ?_)
  · have : a = b := by simpa using h
    rw [this, mult_self hes]
  · have hab : a ≠ b := by simpa using h
    refine (specMult_l0 n es hes hel a b hab es.length 0 0 (by omega) (by omega) (by omega)).mono ?_
    rintro _ rfl
    simp
theorem implMult_l0 (n : Int) (es : List E) (hes : ∀ e ∈ es, EOk n e) (hel : es.length ≤ 12) (a b : Int) (hab : a ≠ b) : ∀ (d i : Nat) (c : Int), i + d = es.length → 0 ≤ c → c ≤ i → Ep (fun k => impl_Multiplicity.l0 k a b c es (es.length : Int) (i : Int)) (· = c + mult (es.drop i) a b) := by
  intro d
  induction d with
  | zero =>
    intro i c hi h0 h1
    refine Ep.up ?_
    simp only [impl_Multiplicity.l0]
    refine Ep.neg (by omega) (Ep.now ?_)
    rw [List.drop_of_length_le (by omega)]
    simp [mult, sumE]
  | succ d ih =>
    intro i c hi h0 h1
    have hlt : i < es.length := by omega
    have hk := hes _ (List.getElem_mem hlt)
    refine Ep.up ?_
    simp only [impl_Multiplicity.l0]
    refine Ep.pos (by omega) (Ep.pos (by omega) (Ep.pos (by omega) ?_))
    rw [rdE_get hlt, wrap_succ (by omega), wrap_id (x := c + 1) (by omega) (by omega), mult_drop hlt, multE_alt hk hab]
    refine Ep.ite (fun h => Ep.ite (fun h2 => ?_) (fun h2 => ?_)) (fun h => ?_)
    · rw [if_pos ⟨h, h2⟩]
      refine (ih (i + 1) (c + 1) (by omega) (by omega) (by omega)).mono ?_
      rintro _ rfl
      omega
    · rw [if_neg (fun x => h2 x.2)]
      refine (ih (i + 1) c (by omega) (by omega) (by omega)).mono ?_
      rintro _ rfl
      omega
    · rw [if_neg (fun x => h x.1)]
      refine (ih (i + 1) c (by omega) (by omega) (by omega)).mono ?_
      rintro _ rfl
      omega
theorem implMult (n : Int) (es : List E) (hes : ∀ e ∈ es, EOk n e) (hel : es.length ≤ 12) (a b : Int) (ha : 0 ≤ a ∧ a < n) (hb : 0 ≤ b ∧ b < n) : Ep (fun k => impl_Multiplicity.f k n es a b) (· = mult es a b) := by
  simp only [impl_Multiplicity.f]
  refine Ep.neg (by unfold mn; split <;> omega) (Ep.neg (by unfold mx; split <;> omega) ?_)
  refine Ep.up ?_
  simp only [impl_Multiplicity.j0]
  refine Ep.ite (fun h => Ep.now ?_) (fun h => ?_)
  · have : a = b := by simpa using h
    rw [this, mult_self hes]
  · have hab : a ≠ b := by simpa using h
    refine (implMult_l0 n es hes hel a b hab es.length 0 0 (by omega) (by omega) (by omega)).mono ?_
    rintro _ rfl
    simp
end Go.Proofs.Ytdfibdjjoplmmaa.Cf
end

section
namespace Go.Proofs.Ytdfibdjjoplmmaa.Cf
set_option linter.unusedVariables false
set_option linter.unusedSimpArgs false
open Go.RowKit Go.Proofs.YtdfibdjjoplmmaaW.PrintWords Go.Proofs.Ytdfibdjjoplmmaa.P
def lapRow (n : Nat) (es : List E) (r : Int) : List Int := repL n fun c => lapM es r c
def lapL (n : Nat) (es : List E) : List (List Int) := (List.range n).map fun r : Nat => lapRow n es (r : Int)
theorem lapL_len (n : Nat) (es : List E) : (lapL n es).length = n := by simp [lapL]
theorem lapM_bd {es : List E} (hel : es.length ≤ 12) (r c : Int) : -12 ≤ lapM es r c ∧ lapM es r c ≤ 12 := by
  have h1 := val_nonneg es r
  have h2 := val_le es r
  have h3 := mult_nonneg es r c
  have h4 := mult_le es r c
  unfold lapM
  split <;> omega
theorem implLap_l1 {n : Nat} {es : List E} (hes : ∀ e ∈ es, EOk n e) (hel : es.length ≤ 12) (hn : n ≤ 6) {M : List (List Int)} (hM : M.length ≤ 6) {v : Nat} (hv : v < n) {Q : List (List Int) → Prop}
    (hQ : Ep (fun k => impl_LaplacianOf.l0 k (M ++ [lapRow n es (v : Int)]) ((v + 1 : Nat) : Int) (n : Int) es) Q) : ∀ (d i : Nat) (x : List Int), i + d = n → Rep n x (fun w => if w < i then - mult es (v : Int) w else 0) →
    Ep (fun k => impl_LaplacianOf.l1 k M (v : Int) x (n : Int) (i : Int) (n : Int) es) Q := by
  intro d
  induction d with
  | zero =>
    intro i x hi hx
    refine Ep.up ?_
    simp only [impl_LaplacianOf.l1]
    refine Ep.neg (by omega) (Ep.bind (implValence _ es _ (by omega)) ?_)
    rintro _ rfl
    refine Ep.pos (by omega) (Ep.pos (by have := hx.1; omega) (Ep.pos (by omega) ?_))
    have e : x.set ((v : Int)).toNat (valG (n : Int) es (v : Int)) = lapRow n es (v : Int) := ((hx.set (v := (v : Int)) (by omega) (by omega) _).congr fun w w0 w1 => by
      unfold lapM
      by_cases c : w = v
      · rw [if_pos c, if_pos c.symm, valG_in ⟨by omega, by omega⟩]
      · rw [if_neg c, if_pos (by omega), if_neg (fun q => c q.symm)]).eq
    rw [e, wrap_succ (by omega)]
    exact hQ
  | succ d ih =>
    intro i x hi hx
    refine Ep.up ?_
    simp only [impl_LaplacianOf.l1]
    refine Ep.pos (by omega) (Ep.bind (implMult _ es hes hel _ _ ⟨by omega, by omega⟩ ⟨by omega, by omega⟩) ?_)
    rintro _ rfl
    have hm0 := mult_nonneg es (v : Int) (i : Int)
    have hm1 := mult_le es (v : Int) (i : Int)
    refine Ep.pos (by omega) (Ep.pos (by have := hx.1; omega) ?_)
    rw [wrap_id (by omega) (by omega), wrap_succ (by omega)]
    refine ih (i + 1) _ (by omega) ((hx.set (v := (i : Int)) (by omega) (by omega) _).congr fun w w0 w1 => ?_)
    by_cases c : w = i
    · rw [if_pos c, if_pos (by omega), c]
    · rw [if_neg c]
      by_cases c2 : w < i
      · rw [if_pos c2, if_pos (by omega)]
      · rw [if_neg c2, if_neg (by omega)]
theorem lapL_take {n : Nat} (es : List E) {v : Nat} (hv : v < n) : (lapL n es).take (v + 1) = (lapL n es).take v ++ [lapRow n es (v : Int)] := by
  rw [List.take_succ_eq_append_getElem (by rw [lapL_len]; exact hv)]
  simp [lapL]
theorem implLap_l0 {n : Nat} {es : List E} (hes : ∀ e ∈ es, EOk n e) (hel : es.length ≤ 12) (hn : n ≤ 6) : ∀ (d v : Nat), v + d = n → Ep (fun k => impl_LaplacianOf.l0 k ((lapL n es).take v) (v : Int) (n : Int) es) (· = lapL n es) := by
  intro d
  induction d with
  | zero =>
    intro v hv
    refine Ep.up ?_
    simp only [impl_LaplacianOf.l0]
    refine Ep.neg (by omega) (Ep.now ?_)
    rw [List.take_of_length_le (by rw [lapL_len]; omega)]
  | succ d ih =>
    intro v hv
    have h1 := ih (v + 1) (by omega)
    rw [lapL_take es (by omega)] at h1
    refine Ep.up ?_
    simp only [impl_LaplacianOf.l0]
    refine Ep.pos (by omega) (Ep.pos (by omega) (Ep.pos (by omega) (Ep.bind0 rfl ?_)))
    rw [Int.toNat_natCast, List.length_replicate]
    exact implLap_l1 hes hel hn (by rw [List.length_take]; omega) (by omega) h1 n 0 _ (by omega) ((Rep.zero n).congr fun w w0 w1 => by rw [if_neg (by omega)])
theorem implLap {n : Nat} {es : List E} (hg : GOk (n : Int) es) : Ep (fun k => impl_LaplacianOf.f k (n : Int) es) (· = lapL n es) := by
  have hG := hg.1
  unfold EsOk at hG
  simp only [impl_LaplacianOf.f]
  refine Ep.bind0 (implGraph _ _) ?_
  rw [gOk_iff.2 hg]
  refine Ep.pos rfl ?_
  have := implLap_l0 (n := n) hG.2.2.2 hG.2.2.1 (by omega) n 0 (by omega)
  simpa using this
/-- The vertices but q. -/
def vsL (n q : Nat) : List Int := ((List.range n).eraseIdx q).map fun i : Nat => (i : Int)
theorem vsL_nodup (n q : Nat) : (vsL n q).Nodup := by
  unfold vsL
  refine List.Pairwise.map _ (fun a b h => ?_) ((List.nodup_range (n := n)).sublist (List.eraseIdx_sublist _ _))
  omega
theorem vsL_mem {n q : Nat} (hq : q < n) {v : Int} : v ∈ vsL n q ↔ (0 ≤ v ∧ v < n) ∧ v ≠ q := by
  unfold vsL
  rw [List.mem_map]
  constructor
  · rintro ⟨i, hi, rfl⟩
    rw [List.mem_eraseIdx_iff_getElem] at hi
    obtain ⟨j, hj, hjq, hje⟩ := hi
    simp at hj hje
    omega
  · rintro ⟨⟨h0, h1⟩, h2⟩
    refine ⟨v.toNat, ?_, by omega⟩
    rw [List.mem_eraseIdx_iff_getElem]
    exact ⟨v.toNat, by simp; omega, by omega, by simp⟩
theorem vsL_len {n q : Nat} (hq : q < n) : (vsL n q).length = n - 1 := by
  unfold vsL
  rw [List.length_map, List.length_eraseIdx, if_pos (by simpa using hq), List.length_range]
def redM (n : Nat) (es : List E) (q : Nat) : List (List Int) := (vsL n q).map fun r => (vsL n q).map fun c => lapM es r c
theorem redM_len {n q : Nat} (hq : q < n) (es : List E) : (redM n es q).length = n - 1 := by unfold redM; rw [List.length_map, vsL_len hq]
theorem keep_erase (q : Nat) (L : List (List Int)) : ∀ i, i ≤ L.length → keepF q L i = ((L.take i).eraseIdx q).map fun r => r.eraseIdx q
  | 0, _ => by simp [keepF]
  | i + 1, h => by
    have hi : i < L.length := by omega
    have ih := keep_erase q L i (by omega)
    unfold keepF
    have hl : (L.take i).length = i := by rw [List.length_take]; omega
    rw [List.take_succ_eq_append_getElem hi]
    by_cases c : i = q
    · rw [if_pos c, ih, List.eraseIdx_append_of_length_le (by omega), hl, show q - i = 0 by omega, List.eraseIdx_of_length_le (l := L.take i) (by omega)]
      simp
    · rw [if_neg c, ih]
      have hg : L.getD i [] = L[i] := by simp [List.getD, hi]
      rw [hg]
      by_cases d : q < i
      · rw [List.eraseIdx_append_of_lt_length (by omega)]
        simp
      · rw [List.eraseIdx_append_of_length_le (by omega), List.eraseIdx_of_length_le (l := L.take i) (by omega), List.eraseIdx_of_length_le (l := [L[i]]) (by simp; omega), List.map_append]
        rfl
theorem keep_red {n q : Nat} (es : List E) : keepF q (lapL n es) (lapL n es).length = redM n es q := by
  rw [keep_erase q _ _ (Nat.le_refl _), List.take_length]
  unfold lapL redM vsL lapRow repL
  rw [map_eraseIdx, List.map_map]
  show _ = (((List.range n).eraseIdx q).map fun i : Nat => (i : Int)).map _
  rw [List.map_map]
  refine List.map_congr_left fun r _ => ?_
  show ((List.range n).map fun c : Nat => lapM es (r : Int) (c : Int)).eraseIdx q = (((List.range n).eraseIdx q).map fun i : Nat => (i : Int)).map _
  rw [map_eraseIdx, List.map_map]
  rfl
theorem implRL {n : Nat} {es : List E} (hg : GOk (n : Int) es) {q : Nat} (hq : q < n) : Ep (fun k => impl_ReducedLaplacian.f k (n : Int) es (q : Int)) (· = redM n es q) := by
  have hG := hg.1
  unfold EsOk at hG
  simp only [impl_ReducedLaplacian.f]
  refine Ep.bind0 (isVertex_eq (n : Int) es _ (by simp [Wf, Lit.wf, IntKind.min, IntKind.max, IntKind.signed, IntKind.bits]; omega)) ?_
  refine Ep.pos (by rw [gOk_iff.2 hg]; simp; omega) ?_
  refine Ep.bind (implLap hg) ?_
  rintro _ rfl
  have e : redF (q : Int) (lapL n es) = some (redM n es q) := by
    unfold redF
    rw [if_pos, Int.toNat_natCast, keep_red]
    refine ⟨by omega, by omega, by rw [lapL_len]; omega, fun r hr => ?_⟩
    unfold lapL at hr
    obtain ⟨i, _, rfl⟩ := List.mem_map.1 hr
    unfold lapRow
    rw [repL_len]
    omega
  exact Ep.congr (fun _ => e) (Ep.now rfl)
/-- A matrix of m rows and columns, its entries at most 12. -/
def SqOk (m : Nat) (M : List (List Int)) : Prop := M.length = m ∧ (∀ r ∈ M, r.length = m) ∧ ∀ r ∈ M, ∀ x ∈ r, -12 ≤ x ∧ x ≤ 12
theorem rd_bd {l : List Int} (h : ∀ x ∈ l, -12 ≤ x ∧ x ≤ 12) (i : Int) : -12 ≤ rd l i ∧ rd l i ≤ 12 := by
  unfold rd
  by_cases c : i.toNat < l.length
  · rw [List.getD_eq_getElem?_getD, List.getElem?_eq_getElem c]
    exact h _ (List.getElem_mem c)
  · rw [List.getD_eq_getElem?_getD, List.getElem?_eq_none (by omega)]
    simp
theorem SqOk.ent {m : Nat} {M : List (List Int)} (h : SqOk m M) (r c : Int) : -12 ≤ ent M r c ∧ ent M r c ≤ 12 := by
  unfold Cf.ent
  by_cases d : r.toNat < M.length
  · rw [List.getD_eq_getElem?_getD, List.getElem?_eq_getElem d]
    exact rd_bd (h.2.2 _ (List.getElem_mem d)) c
  · rw [List.getD_eq_getElem?_getD, List.getElem?_eq_none (by omega)]
    simp [rd]
theorem det_bd {m : Nat} {M : List (List Int)} (h : SqOk m M) {rs cs : List Int} (hr : rs.length ≤ 5) (hc : cs.length ≤ 6) : -1934917632 ≤ detL M rs cs ∧ detL M rs cs ≤ 1934917632 := by
  have h1 := detL_bd (B := 12) (by omega) h.ent rs cs hc
  have h2 : ((6 * 12 : Int)) ^ rs.length ≤ 1934917632 := by
    match hl : rs.length, hr with
    | 0, _ => decide
    | 1, _ => decide
    | 2, _ => decide
    | 3, _ => decide
    | 4, _ => decide
    | 5, _ => decide
  omega
theorem alt_shift (n : Nat) (g : Nat → Int) (p : Nat) : alt (n + 1) (fun i => g (p + i)) = g p - alt n (fun i => g (p + 1 + i)) := by
  show g (p + 0) - _ = _
  rw [Nat.add_zero]
  congr 1
  exact alt_congr fun i _ => by show g (p + (i + 1)) = _; rw [show p + (i + 1) = p + 1 + i by omega]
theorem implDet_l0 {m : Nat} (hm : m ≤ 5) {M : List (List Int)} (hM : SqOk m M) {r : Int} {rs : List Int} (hr : 0 ≤ r ∧ r < m) (hrs : rs.length ≤ 4) {b : Nat} (hb : b < 2 ^ m)
    (ih : ∀ b' : Nat, b' < 2 ^ m → Ep (fun k => impl_determinant.f k M rs (b' : Int)) (· = detL M rs (bitsL b'))) :
    ∀ (d c : Nat) (s σ : Int), c + d = m → (σ = 1 ∨ σ = -1) → (-(c * 23219011584 : Int) ≤ s ∧ s ≤ c * 23219011584) →
      Ep (fun k => impl_determinant.l0 k M (r :: rs) (b : Int) s σ (rd_L3 M r) (m : Int) (c : Int))
        (· = s + σ * alt ((bitsL b).length - (bitsB b c).length) fun i => ent M r ((bitsL b).getD ((bitsB b c).length + i) 0) * detL M rs ((bitsL b).eraseIdx ((bitsB b c).length + i))) := by
  have h32 : (2 : Nat) ^ m ≤ 32 := by
    have := Nat.pow_le_pow_right (show 0 < 2 by omega) hm
    omega
  have hrow : (rd_L3 M r).length = m := by
    unfold rd_L3
    rw [List.getD_eq_getElem?_getD, List.getElem?_eq_getElem (by have := hM.1; omega)]
    exact hM.2.1 _ (List.getElem_mem _)
  intro d
  induction d with
  | zero =>
    intro c s σ hc hσ hs
    refine Ep.up ?_
    simp only [impl_determinant.l0]
    refine Ep.neg (by omega) (Ep.now ?_)
    have e := bm_all ⟨b, by omega⟩ ⟨c, by omega⟩ (by simp; rw [show c = m by omega]; exact hb)
    simp only at e
    rw [e, Nat.sub_self]
    simp [alt]
  | succ d ihd =>
    intro c s σ hc hσ hs
    refine Ep.up ?_
    simp only [impl_determinant.l0]
    refine Ep.pos (by omega) (Ep.pos (by omega) (Ep.pos (by omega) ?_))
    rw [wrap_succ (by omega)]
    have hsu := bitsB_succ b c
    rcases bm_val ⟨b, by omega⟩ ⟨c, by omega⟩ with ⟨b1, b2⟩ | ⟨b1, b2⟩
    · simp only at b1 b2
      rw [if_pos b2] at hsu
      obtain ⟨m', e1, e2, e3, e4⟩ := bm_drop ⟨b, by omega⟩ ⟨c, by omega⟩ b2
      simp only at e1 e2 e3 e4
      have hp : (bitsB b c).length < (bitsL b).length := by
        rw [List.getElem?_eq_some_iff] at e3
        exact e3.1
      have hg : (bitsL b).getD (bitsB b c).length 0 = (c : Int) := by rw [List.getD_eq_getElem?_getD, e3]; rfl
      have hl1 : (bitsB b (c + 1)).length = (bitsB b c).length + 1 := by rw [hsu]; simp
      have hsplit : (bitsL b).length - (bitsB b c).length = ((bitsL b).length - (bitsB b (c + 1)).length) + 1 := by omega
      have hent : rd (rd_L3 M r) (c : Int) = ent M r (c : Int) := rfl
      have hbd := hM.ent r (c : Int)
      have hdb := det_bd hM (rs := rs) (cs := bitsL m'.val) (by omega) (by have := bitsB_len m'.val 6; exact this)
      rw [hsplit, alt_shift _ (fun i => ent M r ((bitsL b).getD i 0) * detL M rs ((bitsL b).eraseIdx i)), hg, ← e2, ← hl1]
      refine Ep.neg (by rw [b1]; omega) ?_
      rw [hent]
      by_cases hz : ent M r (c : Int) = 0
      · refine Ep.pos hz ?_
        have hneg : wrap64 (-σ) = -σ := wrap_id (by omega) (by omega)
        rw [hneg]
        refine (ihd (c + 1) s (-σ) (by omega) (by omega) (by omega)).mono fun v hv => ?_
        rw [hv, hz, Int.zero_mul, Int.zero_sub, Int.mul_neg, Int.neg_mul]
      · refine Ep.neg hz (Ep.pos (by rw [List.length_cons]; omega) ?_)
        rw [e1]
        refine Ep.bind (ih m'.val (by omega)) ?_
        rintro _ rfl
        have hneg : wrap64 (-σ) = -σ := wrap_id (by omega) (by omega)
        have hprod := mul_bd hbd hdb
        have e5 : wrap64 (σ * ent M r (c : Int)) = σ * ent M r (c : Int) := by
          rcases hσ with rfl | rfl
          · exact wrap_id (by omega) (by omega)
          · exact wrap_id (by omega) (by omega)
        have e6 : σ * ent M r (c : Int) * detL M rs (bitsL m'.val) = σ * (ent M r (c : Int) * detL M rs (bitsL m'.val)) := Int.mul_assoc _ _ _
        have hb2 : -(23219011584 : Int) ≤ σ * (ent M r (c : Int) * detL M rs (bitsL m'.val)) ∧ σ * (ent M r (c : Int) * detL M rs (bitsL m'.val)) ≤ 23219011584 := by
          rcases hσ with rfl | rfl <;> omega
        rw [e5, e6]
        have e7 : wrap64 (σ * (ent M r (c : Int) * detL M rs (bitsL m'.val))) = σ * (ent M r (c : Int) * detL M rs (bitsL m'.val)) := wrap_id (by omega) (by omega)
        have e8 : wrap64 (s + σ * (ent M r (c : Int) * detL M rs (bitsL m'.val))) = s + σ * (ent M r (c : Int) * detL M rs (bitsL m'.val)) := wrap_id (by omega) (by omega)
        rw [e7, e8, hneg]
        refine (ihd (c + 1) _ (-σ) (by omega) (by omega) (by omega)).mono fun v hv => ?_
        rw [hv, Int.mul_sub, Int.neg_mul]
        omega
    · simp only at b1 b2
      have b2' : ¬ b.testBit c = true := by simpa using b2
      rw [if_neg b2', List.append_nil] at hsu
      refine Ep.pos b1 ?_
      have h := ihd (c + 1) s σ (by omega) hσ (by omega)
      rw [hsu] at h
      exact h
theorem implDet {m : Nat} (hm : m ≤ 5) {M : List (List Int)} (hM : SqOk m M) : ∀ (rs : List Int), rs.length ≤ 5 → (∀ r ∈ rs, 0 ≤ r ∧ r < (m : Int)) → ∀ b : Nat, b < 2 ^ m → Ep (fun k => impl_determinant.f k M rs (b : Int)) (· = detL M rs (bitsL b))
  | [], _, _, b, _ => by
    refine Ep.up ?_
    simp only [impl_determinant.f]
    exact Ep.pos rfl (Ep.now rfl)
  | r :: rs, hl, hr, b, hb => by
    have hr0 := hr r List.mem_cons_self
    have hrow : (rd_L3 M r).length = m := by
      unfold rd_L3
      rw [List.getD_eq_getElem?_getD, List.getElem?_eq_getElem (by have := hM.1; omega)]
      exact hM.2.1 _ (List.getElem_mem _)
    have ih := implDet hm hM rs (by simp at hl; omega) (fun x hx => hr x (List.mem_cons_of_mem _ hx))
    refine Ep.up ?_
    simp only [impl_determinant.f]
    have e : rd (r :: rs) 0 = r := rfl
    refine Ep.neg (by rw [List.length_cons]; omega) (Ep.pos (by rw [List.length_cons]; omega) (Ep.pos (by rw [e]; exact hr0.1) (Ep.pos (by rw [e, hM.1]; exact hr0.2) ?_)))
    rw [e, hrow]
    refine (implDet_l0 hm hM hr0 (by simp at hl; omega) hb ih m 0 0 1 (by omega) (Or.inl rfl) (by omega)).mono fun v hv => ?_
    rw [hv, show (bitsB b 0).length = 0 from rfl]
    simp only [Nat.sub_zero, Nat.zero_add, Int.zero_add, Int.one_mul]
    rfl
theorem implMat_l0 {m : Nat} (hm : m ≤ 5) {M : List (List Int)} (hM : SqOk m M) : ∀ (d i : Nat), i + d = m → Ep (fun k => impl_MatrixOk.l0 k M M (m : Int) (i : Int)) (· = true) := by
  intro d
  induction d with
  | zero =>
    intro i hi
    refine Ep.up ?_
    simp only [impl_MatrixOk.l0]
    exact Ep.neg (by omega) (Ep.now rfl)
  | succ d ih =>
    intro i hi
    have hml := hM.1
    have hlt : i < M.length := by omega
    have e : rd_L3 M (i : Int) = M[i] := by
      unfold rd_L3
      rw [Int.toNat_natCast, List.getD_eq_getElem?_getD, List.getElem?_eq_getElem hlt]
      rfl
    have h1 := hM.2.1 _ (List.getElem_mem hlt)
    have h2 := hM.2.2 _ (List.getElem_mem hlt)
    refine Ep.up ?_
    simp only [impl_MatrixOk.l0]
    refine Ep.pos (by omega) (Ep.pos (by omega) (Ep.pos (by omega) (Ep.pos (by rw [e]; omega) ?_)))
    rw [e]
    refine Ep.bind (allWithin_ok _ _ _ (by omega)) ?_
    rintro _ rfl
    refine Ep.pos (decide_eq_true fun x hx => by have := h2 x hx; omega) ?_
    rw [wrap_succ (by omega)]
    exact ih (i + 1) (by omega)
theorem implMatrixOk {m : Nat} (hm : m ≤ 5) {M : List (List Int)} (hM : SqOk m M) : Ep (fun k => impl_MatrixOk.f k M) (· = true) := by
  simp only [impl_MatrixOk.f]
  have hml := hM.1
  refine Ep.neg (by omega) ?_
  rw [hml]
  exact implMat_l0 hm hM m 0 (by omega)
/-- 0 .. m - 1. -/
def upTo (m : Nat) : List Int := (List.range m).map fun j : Nat => (j : Int)
theorem implDeterminant {m : Nat} (hm : m ≤ 5) {M : List (List Int)} (hM : SqOk m M) : Ep (fun k => impl_Determinant.f k M) (· = detL M (upTo m) (upTo m)) := by
  simp only [impl_Determinant.f]
  refine Ep.bind (implMatrixOk hm hM) ?_
  rintro _ rfl
  refine Ep.pos rfl ?_
  obtain ⟨h1, h2, h3, h4⟩ := bm_full (i := m) (by omega)
  rw [hM.1, h2]
  refine Ep.bind (implBits h4) ?_
  rintro _ rfl
  rw [h1]
  have hpos : 0 < 2 ^ m := Nat.pow_pos (by omega)
  refine Ep.bind (implDet hm hM _ (by simp; exact hm) (fun r hr => ?_) (2 ^ m - 1) (by omega)) ?_
  · obtain ⟨j, hj, rfl⟩ := List.mem_map.1 hr
    have := List.mem_range.1 hj
    omega
  · rintro _ rfl
    rw [h1]
    exact Ep.now rfl
theorem redM_sq {n q : Nat} (hq : q < n) {es : List E} (hel : es.length ≤ 12) : SqOk (n - 1) (redM n es q) := by
  refine ⟨redM_len hq es, fun r hr => ?_, fun r hr x hx => ?_⟩
  · unfold redM at hr
    obtain ⟨v, _, rfl⟩ := List.mem_map.1 hr
    rw [List.length_map, vsL_len hq]
  · unfold redM at hr
    obtain ⟨v, _, rfl⟩ := List.mem_map.1 hr
    obtain ⟨w, _, rfl⟩ := List.mem_map.1 hx
    exact lapM_bd hel _ _
/-- The i-th vertex of a list. -/
def vAt (vs : List Int) (i : Int) : Int := vs.getD i.toNat 0
theorem redM_ent {n q : Nat} (hq : q < n) (es : List E) {r c : Int} (hr : 0 ≤ r ∧ r < ((n - 1 : Nat) : Int)) (hc : 0 ≤ c ∧ c < ((n - 1 : Nat) : Int)) : ent (redM n es q) r c = lapM es (vAt (vsL n q) r) (vAt (vsL n q) c) := by
  have hl := vsL_len hq
  unfold ent redM rd vAt
  rw [getD_map (fun r => (vsL n q).map fun c => lapM es r c) (vsL n q) r.toNat 0 [] (by omega), getD_map (fun c => lapM es _ c) (vsL n q) c.toNat 0 0 (by omega)]
theorem detL_detC {M : List (List Int)} {A : Int → Int → Int} {v : Int → Int} : ∀ (rs cs : List Int), (∀ r ∈ rs, ∀ c ∈ cs, ent M r c = A (v r) (v c)) → detL M rs cs = detC (rs.map v) (cs.map fun c r => A r (v c))
  | [], cs, _ => rfl
  | r :: rs, cs, h => by
    show (alt cs.length fun i => ent M r (cs.getD i 0) * detL M rs (cs.eraseIdx i)) = alt (cs.map fun c r => A r (v c)).length fun i => ((cs.map fun c r => A r (v c)).getD i z0) (v r) * detC (rs.map v) ((cs.map fun c r => A r (v c)).eraseIdx i)
    rw [List.length_map]
    refine alt_congr fun i hi => ?_
    rw [getD_map (fun c r => A r (v c)) cs i 0 z0 hi, map_eraseIdx, detL_detC rs (cs.eraseIdx i) fun r' hr' c hc => h r' (List.mem_cons_of_mem _ hr') c (List.mem_of_mem_eraseIdx hc), h r List.mem_cons_self _ (getD_mem 0 hi)]
theorem upTo_mem {m : Nat} {x : Int} : x ∈ upTo m ↔ 0 ≤ x ∧ x < m := by
  unfold upTo
  rw [List.mem_map]
  constructor
  · rintro ⟨j, hj, rfl⟩
    have := List.mem_range.1 hj
    omega
  · exact fun h => ⟨x.toNat, List.mem_range.2 (by omega), by omega⟩
theorem upTo_vAt (vs : List Int) : (upTo vs.length).map (vAt vs) = vs := by
  unfold upTo
  rw [List.map_map]
  refine List.ext_getElem (by simp) fun i h1 h2 => ?_
  simp [vAt, List.getD, h2]
theorem redM_det {n q : Nat} (hq : q < n) (es : List E) : detL (redM n es q) (upTo (n - 1)) (upTo (n - 1)) = dlap es (vsL n q) := by
  rw [detL_detC (A := lapM es) (v := vAt (vsL n q)) _ _ fun r hr c hc => redM_ent hq es (upTo_mem.1 hr) (upTo_mem.1 hc)]
  unfold dlap
  have e := upTo_vAt (vsL n q)
  rw [vsL_len hq] at e
  have e2 : (upTo (n - 1)).map (fun (c r : Int) => lapM es r (vAt (vsL n q) c)) = ((upTo (n - 1)).map (vAt (vsL n q))).map fun c r => lapM es r c := by rw [List.map_map]; rfl
  rw [e2, e]
theorem implCountTrees {n : Nat} {es : List E} (hg : GOk (n : Int) es) : Ep (fun k => impl_CountTrees.f k (n : Int) es) (· = dlap es (vsL n 0)) := by
  have hG := hg.1
  unfold EsOk at hG
  simp only [impl_CountTrees.f]
  refine Ep.bind0 (implGraph _ _) ?_
  rw [gOk_iff.2 hg]
  refine Ep.pos rfl (Ep.bind (implRL hg (q := 0) (by omega)) ?_)
  rintro _ rfl
  refine Ep.bind (implDeterminant (by omega) (redM_sq (q := 0) (by omega) hG.2.2.1)) ?_
  rintro _ rfl
  rw [redM_det (by omega)]
  exact Ep.now rfl
theorem lapRow_take {n : Nat} (es : List E) (a : Int) {v : Nat} (hv : v < n) : (lapRow n es a).take (v + 1) = (lapRow n es a).take v ++ [lapM es a (v : Int)] := by
  rw [List.take_succ_eq_append_getElem (by unfold lapRow; rw [repL_len]; exact hv)]
  unfold lapRow repL
  simp
theorem lapRow_len (n : Nat) (es : List E) (a : Int) : (lapRow n es a).length = n := by unfold lapRow; rw [repL_len]
theorem specLap_l1 {n : Nat} {es : List E} (hes : ∀ e ∈ es, EOk n e) (hel : es.length ≤ 12) (hn : n ≤ 6) {M : List (List Int)} (hM : M.length ≤ 6) {v : Nat} (hv : v < n) {Q : List (List Int) → Prop}
    (hQ : Ep (fun k => spec_LaplacianOf.l0 k (M ++ [lapRow n es (v : Int)]) ((v + 1 : Nat) : Int) (n : Int) es) Q) : ∀ (d i : Nat), i + d = n →
    Ep (fun k => spec_LaplacianOf.l1 k M (v : Int) ((lapRow n es (v : Int)).take i) (i : Int) (n : Int) es) Q := by
  intro d
  induction d with
  | zero =>
    intro i hi
    refine Ep.up ?_
    simp only [spec_LaplacianOf.l1]
    refine Ep.neg (by omega) (Ep.pos (by omega) ?_)
    rw [wrap_succ (by omega), List.take_of_length_le (by rw [lapRow_len]; omega)]
    exact hQ
  | succ d ih =>
    intro i hi
    have h := ih (i + 1) (by omega)
    rw [lapRow_take es _ (by omega)] at h
    have hl : ((lapRow n es (v : Int)).take i).length ≤ 6 := by rw [List.length_take, lapRow_len]; omega
    refine Ep.up ?_
    simp only [spec_LaplacianOf.l1]
    refine Ep.pos (by omega) ?_
    rw [wrap_succ (by omega)]
    by_cases c : v = i
    · refine Ep.pos (by omega) (Ep.bind (specValence _ es _ (by omega)) ?_)
      rintro _ rfl
      refine Ep.pos (by omega) ?_
      rw [valG_in ⟨by omega, by omega⟩]
      have e : lapM es (v : Int) (i : Int) = val es (v : Int) := by
        unfold lapM
        rw [if_pos (by omega)]
      rw [e] at h
      exact h
    · refine Ep.neg (by omega) (Ep.bind (specMult _ es hes hel _ _ ⟨by omega, by omega⟩ ⟨by omega, by omega⟩) ?_)
      rintro _ rfl
      have hm0 := mult_nonneg es (v : Int) (i : Int)
      have hm1 := mult_le es (v : Int) (i : Int)
      refine Ep.pos (by omega) ?_
      have e : lapM es (v : Int) (i : Int) = - mult es (v : Int) (i : Int) := by
        unfold lapM
        rw [if_neg (by omega)]
      rw [e] at h
      rw [wrap_id (by omega) (by omega)]
      exact h
theorem specLap_l0 {n : Nat} {es : List E} (hes : ∀ e ∈ es, EOk n e) (hel : es.length ≤ 12) (hn : n ≤ 6) : ∀ (d v : Nat), v + d = n → Ep (fun k => spec_LaplacianOf.l0 k ((lapL n es).take v) (v : Int) (n : Int) es) (· = lapL n es) := by
  intro d
  induction d with
  | zero =>
    intro v hv
    refine Ep.up ?_
    simp only [spec_LaplacianOf.l0]
    refine Ep.neg (by omega) (Ep.now ?_)
    rw [List.take_of_length_le (by rw [lapL_len]; omega)]
  | succ d ih =>
    intro v hv
    have h1 := ih (v + 1) (by omega)
    rw [lapL_take es (by omega)] at h1
    refine Ep.up ?_
    simp only [spec_LaplacianOf.l0]
    refine Ep.pos (by omega) ?_
    exact specLap_l1 hes hel hn (by rw [List.length_take]; omega) (by omega) h1 n 0 (by omega)
theorem specLap {n : Nat} {es : List E} (hg : GOk (n : Int) es) : Ep (fun k => spec_LaplacianOf.f k (n : Int) es) (· = lapL n es) := by
  have hG := hg.1
  unfold EsOk at hG
  simp only [spec_LaplacianOf.f]
  refine Ep.bind (specGraph _ _) ?_
  rintro _ rfl
  refine Ep.pos (gOk_iff.2 hg) ?_
  have := specLap_l0 (n := n) hG.2.2.2 hG.2.2.1 (by omega) n 0 (by omega)
  simpa using this
theorem specRL {n : Nat} {es : List E} (hg : GOk (n : Int) es) {q : Nat} (hq : q < n) : Ep (fun k => spec_ReducedLaplacian.f k (n : Int) es (q : Int)) (· = redM n es q) := by
  have hG := hg.1
  unfold EsOk at hG
  simp only [spec_ReducedLaplacian.f]
  refine Ep.bind (specGraph _ _) ?_
  rintro _ rfl
  refine Ep.pos (gOk_iff.2 hg) ?_
  rw [wrap_id (x := (n : Int) - 1) (by omega) (by omega)]
  refine Ep.bind0 (l01In_eq _ _ _) ?_
  refine Ep.pos (by simp; omega) ?_
  refine Ep.bind (specLap hg) ?_
  rintro _ rfl
  have hr : ∀ r ∈ lapL n es, r.length = n := fun r hr => by
    unfold lapL at hr
    obtain ⟨i, _, rfl⟩ := List.mem_map.1 hr
    exact lapRow_len n es _
  refine Ep.pos (fun r h => by rw [hr r h]; omega) ?_
  have e : redF (q : Int) (lapL n es) = some (redM n es q) := by
    unfold redF
    rw [if_pos, Int.toNat_natCast, keep_red]
    exact ⟨by omega, by omega, by rw [lapL_len]; omega, fun r h => by rw [hr r h]; omega⟩
  exact Ep.congr (fun _ => e) (Ep.now rfl)
theorem row_at {m : Nat} {M : List (List Int)} (hM : SqOk m M) {i : Nat} (hi : i < m) : rd_L3 M (i : Int) ∈ M := by
  unfold rd_L3
  rw [Int.toNat_natCast, List.getD_eq_getElem?_getD, List.getElem?_eq_getElem (by have := hM.1; omega)]
  exact List.getElem_mem _
theorem specMat_l1 {m : Nat} (hm : m ≤ 5) {M : List (List Int)} (hM : SqOk m M) {i : Nat} (hi : i < m) {r : List Int} (hr : r ∈ M) (hn : Ep (fun k => spec_MatrixOk.l0 k M M (m : Int) ((i + 1 : Nat) : Int)) (· = true)) :
    ∀ (d j : Nat), j + d = m → Ep (fun k => spec_MatrixOk.l1 k M M (m : Int) (i : Int) r (m : Int) (j : Int)) (· = true) := by
  have hl := hM.2.1 r hr
  intro d
  induction d with
  | zero =>
    intro j hj
    refine Ep.up ?_
    simp only [spec_MatrixOk.l1]
    refine Ep.neg (by omega) ?_
    rw [wrap_succ (by omega)]
    exact hn
  | succ d ih =>
    intro j hj
    have hb := rd_bd (hM.2.2 r hr) (j : Int)
    refine Ep.up ?_
    simp only [spec_MatrixOk.l1]
    refine Ep.pos (by omega) (Ep.pos (by omega) (Ep.pos (by omega) (Ep.bind0 (l01In_eq _ _ _) (Ep.pos (by simp; omega) ?_))))
    rw [wrap_succ (by omega)]
    exact ih (j + 1) (by omega)
theorem specMat_l0 {m : Nat} (hm : m ≤ 5) {M : List (List Int)} (hM : SqOk m M) : ∀ (d i : Nat), i + d = m → Ep (fun k => spec_MatrixOk.l0 k M M (m : Int) (i : Int)) (· = true) := by
  have hM1 := hM.1
  intro d
  induction d with
  | zero =>
    intro i hi
    refine Ep.up ?_
    simp only [spec_MatrixOk.l0]
    exact Ep.neg (by omega) (Ep.now rfl)
  | succ d ih =>
    intro i hi
    have hr := row_at hM (i := i) (by omega)
    have hl := hM.2.1 _ hr
    refine Ep.up ?_
    simp only [spec_MatrixOk.l0]
    refine Ep.pos (by omega) (Ep.pos (by omega) (Ep.pos (by omega) (Ep.pos (by omega) ?_)))
    rw [hl]
    exact specMat_l1 hm hM (by omega) hr (ih (i + 1) (by omega)) m 0 (by omega)
theorem specMatrixOk {m : Nat} (hm : m ≤ 5) {M : List (List Int)} (hM : SqOk m M) : Ep (fun k => spec_MatrixOk.f k M) (· = true) := by
  have hM1 := hM.1
  simp only [spec_MatrixOk.f]
  refine Ep.neg (by omega) ?_
  rw [hM1]
  exact specMat_l0 hm hM m 0 (by omega)
theorem specDet_l0 {m : Nat} (hm : m ≤ 5) {M : List (List Int)} (hM : SqOk m M) {r : Int} {rs : List Int} (hr : 0 ≤ r ∧ r < m) (hrs : rs.length ≤ 4) {cs : List Int} (hcs : cs.length ≤ 6) (hc : ∀ c ∈ cs, 0 ≤ c ∧ c < (m : Int))
    (ih : ∀ cs' : List Int, cs'.length ≤ 6 → (∀ c ∈ cs', 0 ≤ c ∧ c < (m : Int)) → Ep (fun k => spec_l03Det.f k M rs cs') (· = detL M rs cs')) :
    ∀ (d p : Nat) (s σ : Int), p + d = cs.length → (σ = 1 ∨ σ = -1) → (-(p * 23219011584 : Int) ≤ s ∧ s ≤ p * 23219011584) →
      Ep (fun k => spec_l03Det.l0 k M (r :: rs) cs s σ cs (cs.length : Int) (p : Int))
        (· = s + σ * alt (cs.length - p) fun i => ent M r (cs.getD (p + i) 0) * detL M rs (cs.eraseIdx (p + i))) := by
  have hM1 := hM.1
  have hrow : (rd_L3 M r).length = m := by
    unfold rd_L3
    rw [List.getD_eq_getElem?_getD, List.getElem?_eq_getElem (by have := hM.1; omega)]
    exact hM.2.1 _ (List.getElem_mem _)
  intro d
  induction d with
  | zero =>
    intro p s σ hp hσ hs
    refine Ep.up ?_
    simp only [spec_l03Det.l0]
    refine Ep.neg (by omega) (Ep.now ?_)
    rw [show cs.length - p = 0 by omega]
    simp [alt]
  | succ d ihd =>
    intro p s σ hp hσ hs
    have hlt : p < cs.length := by omega
    have e0 : rd (r :: rs) 0 = r := rfl
    have ec : rd cs (p : Int) = cs[p] := by
      rw [rd_nat, List.getD_eq_getElem?_getD, List.getElem?_eq_getElem hlt]
      rfl
    have hcp := hc _ (List.getElem_mem hlt)
    have eg : cs.getD p 0 = cs[p] := by
      rw [List.getD_eq_getElem?_getD, List.getElem?_eq_getElem hlt]
      rfl
    have hent : rd (rd_L3 M r) (cs[p]) = ent M r (cs.getD p 0) := by rw [eg]; rfl
    have hbd := hM.ent r (cs.getD p 0)
    have hle : (cs.eraseIdx p).length ≤ 6 := by rw [List.length_eraseIdx]; split <;> omega
    have hdb := det_bd hM (rs := rs) (cs := cs.eraseIdx p) (by omega) hle
    have hsplit : cs.length - p = (cs.length - (p + 1)) + 1 := by omega
    have hneg : wrap64 (-σ) = -σ := wrap_id (by omega) (by omega)
    refine Ep.up ?_
    simp only [spec_l03Det.l0]
    rw [e0, ec, hent, hneg, wrap_succ (by omega)]
    refine Ep.pos (by omega) (Ep.pos (by omega) (Ep.pos (by omega) (Ep.pos (by rw [List.length_cons]; omega) (Ep.pos (by omega) (Ep.pos (by omega) (Ep.pos (by omega) (Ep.pos (by omega) ?_)))))))
    rw [hsplit, alt_shift _ (fun i => ent M r (cs.getD i 0) * detL M rs (cs.eraseIdx i))]
    by_cases hz : ent M r (cs.getD p 0) = 0
    · refine Ep.pos hz ?_
      refine (ihd (p + 1) s (-σ) (by omega) (by omega) (by omega)).mono fun v hv => ?_
      rw [hv, hz, Int.zero_mul, Int.zero_sub, Int.mul_neg, Int.neg_mul]
    · refine Ep.neg hz (Ep.bind0 rfl (Ep.pos (by omega) (Ep.pos (by simp only [List.length_nil, List.length_take]; omega) (Ep.bind0 rfl (Ep.pos (by omega) (Ep.pos (by omega) (Ep.pos (by simp only [List.nil_append, List.length_take, List.length_drop]; omega) (Ep.pos (by rw [List.length_cons]; omega) ?_))))))))
      rw [List.nil_append, Int.toNat_natCast, Int.toNat_natCast, ← List.eraseIdx_eq_take_drop_succ, show (r :: rs).drop 1 = rs from rfl]
      refine Ep.bind (ih _ hle fun c h => hc c (List.mem_of_mem_eraseIdx h)) ?_
      rintro _ rfl
      have hprod := mul_bd hbd hdb
      have e5 : wrap64 (σ * ent M r (cs.getD p 0)) = σ * ent M r (cs.getD p 0) := by
        rcases hσ with rfl | rfl
        · exact wrap_id (by omega) (by omega)
        · exact wrap_id (by omega) (by omega)
      have e6 : σ * ent M r (cs.getD p 0) * detL M rs (cs.eraseIdx p) = σ * (ent M r (cs.getD p 0) * detL M rs (cs.eraseIdx p)) := Int.mul_assoc _ _ _
      have hb2 : -(23219011584 : Int) ≤ σ * (ent M r (cs.getD p 0) * detL M rs (cs.eraseIdx p)) ∧ σ * (ent M r (cs.getD p 0) * detL M rs (cs.eraseIdx p)) ≤ 23219011584 := by
        rcases hσ with rfl | rfl <;> omega
      rw [e5, e6]
      have e7 : wrap64 (σ * (ent M r (cs.getD p 0) * detL M rs (cs.eraseIdx p))) = σ * (ent M r (cs.getD p 0) * detL M rs (cs.eraseIdx p)) := wrap_id (by omega) (by omega)
      have e8 : wrap64 (s + σ * (ent M r (cs.getD p 0) * detL M rs (cs.eraseIdx p))) = s + σ * (ent M r (cs.getD p 0) * detL M rs (cs.eraseIdx p)) := wrap_id (by omega) (by omega)
      rw [e7, e8]
      refine (ihd (p + 1) _ (-σ) (by omega) (by omega) (by omega)).mono fun v hv => ?_
      rw [hv, Int.mul_sub, Int.neg_mul]
      omega
theorem specDet {m : Nat} (hm : m ≤ 5) {M : List (List Int)} (hM : SqOk m M) : ∀ (rs : List Int), rs.length ≤ 5 → (∀ r ∈ rs, 0 ≤ r ∧ r < (m : Int)) → ∀ cs : List Int, cs.length ≤ 6 → (∀ c ∈ cs, 0 ≤ c ∧ c < (m : Int)) → Ep (fun k => spec_l03Det.f k M rs cs) (· = detL M rs cs)
  | [], _, _, cs, _, _ => by
    refine Ep.up ?_
    simp only [spec_l03Det.f]
    exact Ep.pos rfl (Ep.now rfl)
  | r :: rs, hl, hr, cs, hcl, hc => by
    have hr0 := hr r List.mem_cons_self
    have ih := specDet hm hM rs (by simp at hl; omega) (fun x hx => hr x (List.mem_cons_of_mem _ hx))
    refine Ep.up ?_
    simp only [spec_l03Det.f]
    refine Ep.neg (by rw [List.length_cons]; omega) ?_
    refine (specDet_l0 hm hM hr0 (by simp at hl; omega) hcl hc ih cs.length 0 0 1 (by omega) (Or.inl rfl) (by omega)).mono fun v hv => ?_
    rw [hv]
    simp only [Nat.sub_zero, Nat.zero_add, Int.zero_add, Int.one_mul]
    rfl
/-- The edges with these indices. -/
def edgesAt (es : List E) (l : List Int) : List E := l.map (fun k => es.getD k.toNat ⟨0, 0⟩)
def InR (es : List E) (l : List Int) (i : Nat) : Prop := ∀ j, (h : j < l.length) → j < i → 0 ≤ l[j] ∧ l[j] < es.length
def Up (l : List Int) (i : Nat) : Prop := ∀ j, (h : j + 1 < l.length) → j + 1 < i → l[j] < l[j + 1]
theorem edgesAt_take {es : List E} {l : List Int} {i : Nat} (hi : i < l.length) {m : Nat} (hm : l[i] = m) (hl : m < es.length) : edgesAt es (l.take (i + 1)) = edgesAt es (l.take i) ++ [es[m]] := by
  unfold edgesAt
  rw [List.take_add_one, List.getElem?_eq_getElem hi, List.map_append]
  congr 1
  simp [hm, List.getD, hl]
theorem edgesAt_ok {n : Int} {es : List E} {l : List Int} (hes : ∀ e ∈ es, EOk n e) (hr : InR es l l.length) : ∀ e ∈ edgesAt es l, EOk n e := by
  intro e he
  obtain ⟨x, hx, rfl⟩ := List.mem_map.1 he
  obtain ⟨j, hj, rfl⟩ := List.mem_iff_getElem.1 hx
  have := hr j hj hj
  obtain ⟨m, hm⟩ := Int.eq_ofNat_of_zero_le this.1
  rw [hm]
  have hml : m < es.length := by omega
  simp only [Int.ofNat_eq_natCast, Int.toNat_natCast, List.getD, List.getElem?_eq_getElem hml, Option.getD_some]
  exact hes _ (List.getElem_mem hml)
theorem edgesOf_l0 (n : Int) (es : List E) (l : List Int) (hl : l.length ≤ 1048576) (hr : InR es l l.length) : ∀ (d i : Nat), i + d = l.length → Ep (fun k => impl_edgesOf.l0 k (edgesAt es (l.take i)) l (l.length : Int) (i : Int) n es) (· = edgesAt es l) := by
  intro d
  induction d with
  | zero =>
    intro i hi
    refine Ep.up ?_
    simp only [impl_edgesOf.l0]
    refine Ep.neg (by omega) (Ep.now ?_)
    rw [List.take_of_length_le (by omega)]
  | succ d ih =>
    intro i hi
    have hlt : i < l.length := by omega
    have hx := hr i hlt hlt
    obtain ⟨m, hm⟩ := Int.eq_ofNat_of_zero_le hx.1
    have hml : m < es.length := by omega
    refine Ep.up ?_
    simp only [impl_edgesOf.l0]
    rw [rd_get hlt, hm]
    refine Ep.pos (by omega) (Ep.pos (by omega) (Ep.pos (by omega) (Ep.pos (by omega) (Ep.pos (by omega) (Ep.pos ?_ ?_)))))
    · simp [edgesAt]; omega
    · have := ih (i + 1) (by omega)
      rw [edgesAt_take hlt hm hml] at this
      rw [wrap_id (by omega) (by omega)]
      have e : rd_T67 es ((m : Nat) : Int) = es[m] := rdE_get hml
      rw [e]
      exact this
theorem edgesOf_ok (n : Int) (es : List E) (l : List Int) (hl : l.length ≤ 1048576) (hr : InR es l l.length) : Ep (fun k => impl_edgesOf.f k n es l) (· = edgesAt es l) := by
  simp only [impl_edgesOf.f]
  exact edgesOf_l0 n es l hl hr l.length 0 (by omega)
theorem specJoins_l0 (n : Nat) (hn : 1 ≤ n ∧ n ≤ 6) (es : List E) (l : List Int) (hl : l.length ≤ 12) (hes : ∀ e ∈ es, EOk n e) (hr : InR es l l.length) : ∀ (d i : Nat), i + d = l.length → Ep (fun k => spec_l12Joins.l0 k l (l.length : Int) (i : Int) (n : Int) es (n : Int) (edgesAt es (l.take i))) (· = joinedB n (edgesAt es l)) := by
  intro d
  induction d with
  | zero =>
    intro i hi
    refine Ep.up ?_
    simp only [spec_l12Joins.l0]
    refine Ep.neg (by omega) ?_
    rw [List.take_of_length_le (by omega)]
    refine Ep.bind (specReach n hn (edgesAt es l) (by simp [edgesAt]; omega) (edgesAt_ok hes hr)) ?_
    intro r hr
    refine Ep.now ?_
    rw [Bool.eq_iff_iff, joinedB_iff, ← hr.1]
    simp only [beq_iff_eq]
    omega
  | succ d ih =>
    intro i hi
    have hlt : i < l.length := by omega
    have hx := hr i hlt hlt
    obtain ⟨m, hm⟩ := Int.eq_ofNat_of_zero_le hx.1
    have hml : m < es.length := by omega
    refine Ep.up ?_
    simp only [spec_l12Joins.l0]
    rw [rd_get hlt, hm]
    refine Ep.pos (by omega) (Ep.pos (by omega) (Ep.pos (by omega) (Ep.pos (by omega) (Ep.pos (by omega) (Ep.pos ?_ ?_)))))
    · simp [edgesAt]; omega
    · have := ih (i + 1) (by omega)
      rw [edgesAt_take hlt hm hml] at this
      rw [wrap_id (by omega) (by omega)]
      have e : rd_T67 es ((m : Nat) : Int) = es[m] := rdE_get hml
      rw [e]
      exact this
theorem specJoins (n : Nat) (hn : 1 ≤ n ∧ n ≤ 6) (es : List E) (l : List Int) (hl : l.length ≤ 12) (hes : ∀ e ∈ es, EOk n e) (hr : InR es l l.length) : Ep (fun k => spec_l12Joins.f k (n : Int) es l) (· = joinedB n (edgesAt es l)) := by
  simp only [spec_l12Joins.f]
  exact specJoins_l0 n hn es l hl hes hr l.length 0 (by omega)
/-- A spanning tree, by its edges' indices. -/
def TreeOk (n : Int) (es : List E) (l : List Int) : Prop := GOk n es ∧ (l.length : Int) = n - 1 ∧ InR es l l.length ∧ Up l l.length ∧ Joined n (edgesAt es l)
open Classical in
noncomputable def treeB (n : Int) (es : List E) (l : List Int) : Bool := decide (TreeOk n es l)
theorem treeB_iff {n : Int} {es : List E} {l : List Int} : treeB n es l = true ↔ TreeOk n es l := by unfold treeB; simp
theorem treeB_false {n : Int} {es : List E} {l : List Int} (h : ¬ TreeOk n es l) : false = treeB n es l := by
  cases hb : treeB n es l with
  | false => rfl
  | true => exact absurd (treeB_iff.1 hb) h
theorem treeB_joined {n : Int} {es : List E} {l : List Int} (hg : GOk n es) (hl : (l.length : Int) = n - 1) (hr : InR es l l.length) (hu : Up l l.length) : joinedB n (edgesAt es l) = treeB n es l := by
  rw [Bool.eq_iff_iff, joinedB_iff, treeB_iff]
  exact ⟨fun h => ⟨hg, hl, hr, hu, h⟩, fun h => h.2.2.2.2⟩
theorem Up.next {l : List Int} {i : Nat} (h : Up l (i + 1)) (hi : i + 1 < l.length) (hx : l[i] < l[i + 1]) : Up l (i + 2) := by
  intro j hj hji
  by_cases e : j = i
  · subst e; exact hx
  · exact h j hj (by omega)
theorem implTree_l0 (n : Nat) (es : List E) (l : List Int) (hg : GOk n es) (hn : (l.length : Int) = (n : Int) - 1) (hr : InR es l l.length) : ∀ (d i : Nat), l.length ≤ i + 1 + d → i ≤ l.length → Up l (i + 1) → Ep (fun k => impl_IsTree.l0 k l ((i + 1 : Nat) : Int) (n : Int) es) (· = treeB n es l) := by
  have hg1 := hg.1
  unfold EsOk at hg1
  intro d
  induction d with
  | zero =>
    intro i hi hi2 hu
    refine Ep.up ?_
    simp only [impl_IsTree.l0]
    refine Ep.neg (by omega) ?_
    refine Ep.bind (edgesOf_ok (n : Int) es l (by omega) hr) ?_
    rintro _ rfl
    refine Ep.bind (implConn n (by omega) (edgesAt es l) (by simp [edgesAt]; omega) (edgesAt_ok hg1.2.2.2 hr)) ?_
    rintro _ rfl
    exact Ep.now (treeB_joined hg hn hr (fun j hj hji => hu j hj (by omega)))
  | succ d ih =>
    intro i hi hi2 hu
    by_cases hlt : i + 1 < l.length
    · refine Ep.up ?_
      simp only [impl_IsTree.l0]
      rw [wrap_id (x := ((i + 1 : Nat) : Int) - 1) (by omega) (by omega), show ((i + 1 : Nat) : Int) - 1 = (i : Int) by omega, rd_get (show i < l.length by omega), rd_get hlt]
      refine Ep.pos (by omega) (Ep.pos (by omega) (Ep.pos (by omega) (Ep.pos (by omega) (Ep.ite (fun h1 => Ep.now (treeB_false (fun x => ?_))) (fun h1 => ?_)))))
      · have := x.2.2.2.1 i hlt hlt
        omega
      · rw [wrap_id (by omega) (by omega), show ((i + 1 : Nat) : Int) + 1 = ((i + 1 + 1 : Nat) : Int) by omega]
        exact ih (i + 1) (by omega) (by omega) (hu.next hlt (by omega))
    · refine Ep.up ?_
      simp only [impl_IsTree.l0]
      refine Ep.neg (by omega) ?_
      refine Ep.bind (edgesOf_ok (n : Int) es l (by omega) hr) ?_
      rintro _ rfl
      refine Ep.bind (implConn n (by omega) (edgesAt es l) (by simp [edgesAt]; omega) (edgesAt_ok hg1.2.2.2 hr)) ?_
      rintro _ rfl
      exact Ep.now (treeB_joined hg hn hr (fun j hj hji => hu j hj (by omega)))
theorem implTree (n : Int) (es : List E) (l : List Int) (hl : l.length ≤ 1048576) : Ep (fun k => impl_IsTree.f k n es l) (· = treeB n es l) := by
  have no : ¬ TreeOk n es l → Ep (fun k => impl_IsTree.j0 k l true n es) (· = treeB n es l) := by
    intro h
    refine Ep.up ?_
    simp only [impl_IsTree.j0]
    exact Ep.pos trivial (Ep.now (treeB_false h))
  simp only [impl_IsTree.f]
  refine Ep.bind0 (implGraph n es) ?_
  refine Ep.ite (fun hg => ?_) (fun hg => no (fun x => gOk_false hg x.1))
  have hG := gOk_true hg
  have hG1 := hG.1
  unfold EsOk at hG1
  rw [wrap_id (x := n - 1) (by omega) (by omega), wrap_id (x := (es.length : Int) - 1) (by omega) (by omega)]
  obtain ⟨m, rfl⟩ := Int.eq_ofNat_of_zero_le (a := n) (by omega)
  refine Ep.ite (fun hn => ?_) (fun hn => no (fun x => hn x.2.1))
  refine Ep.bind (allWithin_ok l _ _ hl) ?_
  rintro _ rfl
  by_cases ha : ∀ x ∈ l, 0 ≤ x ∧ x ≤ (es.length : Int) - 1
  · have hr : InR es l l.length := fun j hj _ => by
      have := ha l[j] (List.getElem_mem hj)
      omega
    refine Ep.up ?_
    simp only [impl_IsTree.j0]
    refine Ep.neg (by simpa using ha) ?_
    exact implTree_l0 m es l hG hn hr l.length 0 (by omega) (by omega) (fun j hj hji => by omega)
  · have e : (!decide (∀ x ∈ l, 0 ≤ x ∧ x ≤ (es.length : Int) - 1)) = true := by simpa using ha
    rw [e]
    exact no (fun x => ha (fun y hy => by
      obtain ⟨j, hj, rfl⟩ := List.mem_iff_getElem.1 hy
      have := x.2.2.1 j hj hj
      omega))
end Go.Proofs.Ytdfibdjjoplmmaa.Cf
end

section
namespace Go.Proofs.Ytdfibdjjoplmmaa.Cf
set_option linter.unusedVariables false
set_option linter.unusedSimpArgs false
open Go.RowKit Go.Proofs.YtdfibdjjoplmmaaW.PrintWords Go.Proofs.Ytdfibdjjoplmmaa.P
theorem up_of {l : List Int} (h : l.Pairwise (· < ·)) : Up l l.length := fun j h1 _ => List.pairwise_iff_getElem.1 h j (j + 1) (by omega) h1 (by omega)
end Go.Proofs.Ytdfibdjjoplmmaa.Cf
end

section
namespace Go.Proofs.Ytdfibdjjoplmmaa.P
open Go.RowKit Go.Proofs.YtdfibdjjoplmmaaW.PrintWords Go.Proofs.YtdfibdjjoplmmaaW.PrintLast Go.Proofs.YtdfibdjjoplmmaaW.PrintMore
attribute [local go_sem] max2_int min2_int max_two min_two max_three min_three max_four min_four
set_option linter.unusedVariables false
set_option linter.unusedSimpArgs false
def impl_copyGraph.f (a0_0 : Int) (l0_1 : List (S67)) : Option (Int × (List (S67))) := if ([] : List (S67)).length + l0_1.length < 8796093022208 then (some (a0_0, (([] : List (S67)) ++ l0_1))) else (none)
set_option maxHeartbeats 8000000 in
set_option maxRecDepth 100000 in
theorem impl_copyGraph.calls (a0_0 : Int) (A0_1 : Option Addr) (c0_1 : Nat) (l0_1 : List (S67)) (r1 : Int) (r2 : List (S67)) (w : World) (hr0_1 : Kd.C k67 w A0_1 l0_1.length l0_1) (hc0_1 : l0_1.length ≤ c0_1) (h : impl_copyGraph.f a0_0 l0_1 = some (r1, r2)) :
  Calls Try.prog 73 #[.agg #[.int .i64 a0_0, .slice A0_1 l0_1.length c0_1]] w fun e w' => ∃ v1_ : Value, e = .returned (.agg #[.int .i64 r1, v1_]) ∧ Kd.R k67 67 w' w.heap.size (fun _ => True) v1_ r2 ∧ Below w.heap.size w w' := by
 have hu31 := Try.underlying31; have HR0_1 := Aside0.mk hr0_1; have HC0_1 := Aside0.mk hc0_1; clear hr0_1 hc0_1; have HB := Aside0.mk (Below.refl w.heap.size w); have H : (if ([] : List (S67)).length + l0_1.length < 8796093022208 then (some (a0_0, (([] : List (S67)) ++ l0_1))) else (none)) = some (r1, r2) := h; clear h; by_cases c2 : ([] : List (S67)).length + l0_1.length < 8796093022208; rotate_left
 ·rw [if_neg c2] at H; exact absurd H (by simp)
 rw [if_pos c2] at H; have LMc2 := Aside0.mk c2; clear c2; obtain ⟨y103, hy_⟩ : ∃ y_ : List (S67), y_ = (([] : List (S67)) ++ l0_1) := ⟨_, rfl⟩; (replace H : (some (a0_0, y103)) = some (r1, r2) := zzY); have Ny103 := Aside0.mk hy_; clear hy_; simp only [Option.some.injEq, Prod.mk.injEq] at H; obtain ⟨rfl, rfl⟩ := H; go_enter Try.func73, Try.ntmps73; (try go_wp2_with (first | ((with_reducible refine gate_dst (N := 1) rfl ?_); refine box_event ?hg (N := 1) ?hd (cs := #[.int .i64 a0_0, .slice A0_1 l0_1.length c0_1]) (t := 31) ?hr ?_; (case hd => rfl); (case hg => rfl); (case hr => exact zz11); intro gb101 hg w3 hbox hb; have n_ := zA4 (below_step zz2 hb) hbox (zz10 : w.heap.size ≤ gb101) (zz10 : w.heap.size ≤ gb101); clear HB; obtain ⟨HB, BK101, GW101, GE101⟩ := n_; clear hb hbox hg) | ((with_reducible refine gate_dst (N := 2) rfl ?_); refine box_event ?hg (N := 2) ?hd (cs := #[.int .i64 0, .slice none 0 0]) (t := 31) ?hr ?_; (case hd => rfl); (case hg => rfl); (case hr => exact zz11); intro gb102 hg w4 hbox hb; have n_ := zA7 (blk_below (g := gb101) (o := .cells #[.int .i64 a0_0, .slice A0_1 l0_1.length c0_1] 31 (0, 0)) zz1 hb) (below_step zz0 hb) hbox (zz14 : w.heap.size ≤ gb102) (zz14 : w.heap.size ≤ gb102) (zz23 : gb101 ≠ gb102) (zz24 : gb102 ≠ gb101); clear BK101 HB; obtain ⟨BK101, HB, BK102, GW102, GE102, NB101_102, NB102_101⟩ := n_; clear hb hbox hg))); have n_ := zA3 (blk_drew BK101.out) (blk_drew BK102.out) (below_drew1 HB.out); clear BK101 BK102 HB; obtain ⟨BK101, BK102, HB⟩ := n_; refine start_ (n := 7) (S := fun w' => w'.cell? ⟨gb101, 0, none⟩ = some (.int .i64 a0_0) ∧ w'.cell? ⟨gb101, 1, none⟩ = some (.slice A0_1 l0_1.length c0_1)) (ds := []) (zM 7 0) (by kernel_rfl) rfl rfl ⟨(blk_cell BK101.out 0).trans rfl, (blk_cell BK101.out 1).trans rfl⟩ (fun hHeld => ?_); generalize w4.drew = w5 at BK101 BK102 HB hHeld ⊢; refine pure_ (i := 0) (N := some 3) (v := ?_) (a' := ?_) (zM 7 1) rfl rfl (by kernel_rfl) (fun _ _ _ h => h) (Or.inl ⟨by rfl, ?_⟩) ?_ ?_; rotate_left
 ·intro w'; exact zzT
 rotate_left
 ·exact zzS
 refine pure_ (i := 2) (N := some 5) (v := ?_) (a' := ?_) (zM 7 5) rfl rfl (by kernel_rfl) (fun _ _ _ h => h) (Or.inl ⟨by rfl, ?_⟩) ?_ ?_; rotate_left
 ·intro w'; exact zzT
 rotate_left
 ·exact zzS
 refine take_ (i := 1) (N := some 4) (v := ?_) (a' := ?_) (zM 7 7) rfl rfl (by kernel_rfl) (fun _ _ _ h => h) (Or.inl ⟨by rfl, ?_⟩) hHeld ?_ ?_; rotate_left
 ·rintro w' ⟨s0, s1⟩; exact zzT
 rotate_left
 ·exact zzS
 refine take_ (i := 3) (N := some 6) (v := ?_) (a' := ?_) (zM 7 15) rfl rfl (by kernel_rfl) (fun _ _ _ h => h) (Or.inl ⟨by rfl, ?_⟩) hHeld ?_ ?_; rotate_left
 ·rintro w' ⟨s0, s1⟩; exact zzT
 rotate_left
 ·exact zzS
 refine one_ (i := 4) (N := some 7) (zM 7 31) rfl rfl (by kernel_rfl) (by decide) (fun K hK => ?_); refine Kd.R_append_rows_step k67 (w0 := w) w.heap.size (by rfl) (.const (.slice none 0 0)) (.tmp 6) 29 67 (.agg #[(.int .i64 0), (.int .i64 0)]) 16 rfl Try.underlying29 info67 rfl (by decide) (by omega) (.slice none 0 0) ([] : List (S67)) l0_1 _ _ _ (fun _ => True) (fun _ => False) rfl rfl ?aO ?aR (fun _ _ h => h) (fun _ h => h.elim) ?aF ?aB ?aS ?aL ?_; (case aR => exact zz5); (case aB => exact zz9); (case aF => exact (fun _ _ => trivial)); (case aO => exact ((Kd.R_nil _ _ _ _ (fun _ => True)))); (case aS => exact (below_size zz9)); (case aL => have := LMc2.out; omega); intro v104 w6 ho hb hg hat; rw [← Ny103.out] at ho; have n_ := zA4 (blk_grown (g := gb101) (o := .cells #[.int .i64 a0_0, .slice A0_1 l0_1.length c0_1] 31 (0, 0)) zz1 hg (by simp [Value.ownBlock])) (blk_grown (g := gb102) (o := .cells #[.int .i64 0, .slice none 0 0] 31 (0, 0)) zz15 hg (by simp [Value.ownBlock])) hb ho; clear BK101 BK102 HB; obtain ⟨BK101, BK102, HB, HO105⟩ := n_; clear ho hb hg hat; obtain ⟨Ao7, co7, eo7⟩ := Kd.R_slice HO105.out; (first | subst eo7 | (injection eo7 with f1_ f2_ f3_; have f4_ := f1_.symm; have f5_ := f3_.symm; clear f1_ f2_ f3_; subst f4_; subst f5_)); refine hK.out _ _ ⟨(blk_cell BK101.out 0).trans rfl, (blk_cell BK101.out 1).trans rfl⟩ (fun hHeld => ?_); clear hK K; refine norm_ (a' := ?_) ?_ ?_; rotate_left
 ·show Act.put _ (some 7) _ = _; exact zzS
 refine pure_ (i := 5) (N := some 8) (v := ?_) (a' := ?_) (zM 7 63) rfl rfl (by kernel_rfl) (fun _ _ _ h => h) (Or.inl ⟨by rfl, ?_⟩) ?_ ?_; rotate_left
 ·intro w'; exact zzT
 rotate_left
 ·exact zzS
 refine one_ (i := 6) (N := none) (zM 7 127) rfl rfl (by kernel_rfl) (by decide) (fun K hK => ?_); have hs8 : w6.cell? ⟨gb102, 0, none⟩ = some (.int .i64 0) := (blk_cell BK102.out 0).trans rfl; have hfs8 := blk_frozen BK102.out 0; have hns8_0 := NB101_102.out; have hms8_0 := NB102_101.out; have hs9 : w6.cell? ⟨gb102, 1, none⟩ = some (.slice none 0 0) := (blk_cell BK102.out 1).trans rfl; have hfs9 := blk_frozen BK102.out 1; have hns9_0 := NB101_102.out; have hms9_0 := NB102_101.out; refine skip_ (w1 := ?_) (by rfl) rfl ?_ ?_; rotate_left
 ·go_simp; rfl
 refine hK.out _ _ ⟨((cell_far (p := ⟨gb102, _, none⟩) NB101_102.out _).trans (((cell_far (p := ⟨gb102, _, none⟩) NB101_102.out _).trans (hHeld.1)))), ((cell_far (p := ⟨gb102, _, none⟩) NB101_102.out _).trans (((cell_far (p := ⟨gb102, _, none⟩) NB101_102.out _).trans (hHeld.2))))⟩ (fun hHeld => ?_); clear hK K; refine done_ (by kernel_rfl) ?_; (try go_wp2); refine bodyPost_ret (results_cell_row rfl _ _ gb102 31 #[.int .i64 a0_0, .slice Ao7 y103.length co7] (0, 0) _ rfl (by (with_reducible repeat (first | refine blk_drewN ?_ _ | refine blk_drew ?_ | refine blk_alloc ?_ _)); refine blk_put (cs := #[.int .i64 a0_0, .slice none 0 0]) ?_ 1 _ rfl; (with_reducible repeat (first | refine blk_drewN ?_ _ | refine blk_drew ?_ | refine blk_alloc ?_ _)); refine blk_put (cs := #[.int .i64 0, .slice none 0 0]) ?_ 0 _ rfl; (with_reducible repeat (first | refine blk_drewN ?_ _ | refine blk_drew ?_ | refine blk_alloc ?_ _)); exact BK102.out) Try.underlying31 rfl (by kernel_rfl)) rfl ?_; exact ⟨_, zz7, by (with_reducible repeat (first | apply Kd.R_alloc | apply Kd.R_drewN | apply Kd.R_drew)); exact Kd.R_mono (Kd.R_far (p := ⟨gb102, 1, none⟩) (Kd.R_far (p := ⟨gb102, 0, none⟩) (Kd.R_types HO105.out BK102.out (by decide)) (fun _ hk => hk.2) (.int .i64 a0_0)) (fun _ hk => hk.2) (.slice Ao7 y103.length co7)) (fun _ hk => trivial), zz9⟩
def impl_Edge_74.f (l0 : List (S67)) (a1 a2 : Int) : Option (List (S67)) := if 0 ≤ a1 then (if a1 < (l0.length : Int) then (if a2 = a1 + 1 then some (l0.eraseIdx a1.toNat) else none) else none) else none
theorem impl_Edge_74.clear_ {P : Program} (W : World) {g o c : Nat} {t e ty : TypeId} {cur : Array Value} (ht : P.underlying t = some (.slice e)) (hv : ∀ w, (zeroValue e).run P w = .ok (.agg #[.int .i64 0, .int .i64 0]) w) (hb : W.heap[g]? = some (.cells cur e (0, 0))) (hl : o + 2 ≤ cur.size) :
  (Builtin.clear_ #[t] ty #[.slice (some ⟨g, o, none⟩) 1 c]).run P W = .ok (.tuple #[]) (W.setCells g o [.int .i64 0, .int .i64 0]) := by
 have hst := run_storeCells_cells (P := P) g o [.int .i64 0, .int .i64 0] 0 W (fun j hj => by
  rw [blk_cell hb]; (simp at hj ⊢); omega) (fun j hj => blk_frozen hb _) (by intro v hv'; simp at hv'; rw [hv']; rfl)
 simp only [Nat.add_zero] at hst; (have hz : (Builtin.zeroCells (.agg #[.int .i64 0, .int .i64 0] : Value).cells 1).toList = [.int .i64 0, .int .i64 0] := by simp [Builtin.zeroCells, Value.cells, List.range_succ]); simp [Builtin.clear_, run_underlying ht, hv, hz, hst]
set_option maxHeartbeats 4000000 in
set_option maxRecDepth 1000000 in
theorem impl_Edge_74.calls (P0_ : Nat → Prop) (u9000_ : Value) (l0 : List (S67)) (a1 a2 : Int) (r : List (S67)) (w0 w : World) (hB : Below w0.heap.size w0 w) (ho0 : Kd.R k67 67 w w0.heap.size P0_ u9000_ l0) (h : impl_Edge_74.f l0 a1 a2 = some r) :
  Calls Try.prog 74 #[u9000_, .int .i64 a1, .int .i64 a2] w fun e w' => ∃ v0_ : Value, e = .returned (v0_) ∧ Kd.R k67 67 w' w0.heap.size (fun k_ => (P0_ k_ ∨ w.heap.size ≤ k_)) v0_ r ∧ Below w0.heap.size w0 w' ∧ Kept w w' (fun k_ => P0_ k_) := by
 unfold impl_Edge_74.f at h; split at h
 ·split at h
  ·split at h
   ·rename_i h0 h1 h2; subst h2; obtain rfl := Option.some.inj h; obtain ⟨i, rfl⟩ := Int.eq_ofNat_of_zero_le h0; (have hi : i < l0.length := by omega); clear h h0 h1; obtain ⟨hk0, inner, ho, hr⟩ := ho0; have hil : inner.length = l0.length * 2 := ho.1; rcases ho.2 with ⟨hv, hn⟩ | ⟨g, cap, cur, rfl, hbg, hh, hnc, hcm, hcs, htk⟩
    ·omega
    ·obtain ⟨i0, hi0, hz0, hz1, hz2⟩ := info_parts info67; (have hcells : ∀ j u, inner[j]? = some u → w.cell? ⟨g, j, none⟩ = some u := fun j u hu => by have := ho.cells (g := g) rfl j u hu; rwa [add_plain] at this); have hb0 : w0.heap.size ≤ w.heap.size := hB.size; change cur.size = cap * 2 at hcs; change List.take (l0.length * 2) cur.toList = inner at htk; have hk0g : P0_ g := hk0 g rfl; have hoi : w.drew.ownsRow w0.heap.size 67 2 (.slice (some ⟨g, 0, none⟩) i cap) i (inner.take (i * 2)) := ⟨by rw [List.length_take]; omega, .inr ⟨g, cap, cur, rfl, hbg, hh, by omega, hcm, hcs, by rw [← htk, List.take_take, Nat.min_eq_left (by omega)]⟩⟩; obtain ⟨d, hd⟩ : ∃ d, l0.length = i + 1 + d := ⟨l0.length - (i + 1), by omega⟩; rw [hd] at hil hnc htk ⊢; obtain ⟨news, hnews⟩ : ∃ news, news = inner.drop ((i + 1) * 2) := ⟨_, rfl⟩; have hnl : news.length = d * 2 := by rw [hnews, List.length_drop, hil]; omega
     have hn1 : ∀ u ∈ news, u.oneCell' = true := fun u hu => by
      rw [hnews] at hu; exact (Kd.reps_one hr (by decide) (fun p c hp => Kd.K_one k67 (Kd.K_of_M k67 hp))) u (List.mem_of_mem_drop hu)
     obtain ⟨A, hA, hsrc⟩ : ∃ A : Addr, (if cap = i + 1 then some (⟨g, 0, none⟩ : Addr) else some ⟨g, (i + 1) * 2, none⟩) = some A ∧ Hid (∀ t u, news[t]? = some u → w.drew.cell? (A.add t) = some u) := by
      by_cases hq : cap = i + 1
      ·refine ⟨⟨g, 0, none⟩, by simp [hq], fun t u hu => ?_⟩; (have h0 : news.length = 0 := by omega); rw [List.length_eq_zero_iff.1 h0] at hu; simp at hu
      refine ⟨⟨g, (i + 1) * 2, none⟩, by simp [hq], fun t u hu => ?_⟩; rw [hnews, List.getElem?_drop] at hu; rw [Addr.add_lit]; exact hcells _ _ (by simpa using hu)
     have HD := Aside0.mk hd; clear hi; have HO := Aside0.mk hoi; have HNL := Aside0.mk hnl; have HN1 := Aside0.mk hn1; have HR := Aside0.mk hr; have HNW := Aside0.mk hnews; have HIL := Aside0.mk hil; have HBW := Aside0.mk hB; have HC := Aside0.mk hcs; have HG := Aside0.mk (⟨hbg, hk0g, hcm⟩ : w0.heap.size ≤ g ∧ P0_ g ∧ cap ≤ maxLen); (have hic : i ≤ cap := by omega); (have hjc : i + 1 ≤ cap := by omega); (have hcz : cap ≤ 9223372036854775807 := by have := hcm; unfold maxLen at this; omega); clear hnl hn1 hr hnews hil hB hcs hbg hk0g hcm hh htk ho hcells hk0 hoi hd
     have clr_ : ∀ {W1 : World}, W1.ownsRow w0.heap.size 67 2 (.slice (some ⟨g, 0, none⟩) (i + d) cap) (i + d) (inner.take (i * 2) ++ news) → ∀ ty, (Builtin.clear_ #[29] ty #[.slice (some ⟨g, (i + d) * 2, none⟩) (i + 1 + d - (i + d)) (cap - (i + d))]).run Try.prog W1 = .ok (.tuple #[]) (W1.setCells g ((i + d) * 2) [.int .i64 0, .int .i64 0]) := fun {W1} hO ty => by
      rcases hO.2 with ⟨hv, _⟩ | ⟨g', cap', cur', hv, _, hh', _, _, hs', _⟩
      ·cases hv
      ·injection hv with ha _ hc'; injection ha with ha; injection ha with ha; subst ha; subst hc'; rw [show i + 1 + d - (i + d) = 1 by omega]; exact impl_Edge_74.clear_ W1 Try.underlying29 Try.zeroValue67 hh' (by rw [hs']; omega)
     (have hbi0 : (0 : Int) ≤ (i : Int) + 1 := by omega); (have hbi1 : (i : Int) + 1 ≤ (i : Int) + 1 + (d : Int) := by omega); go_enter Try.func74, Try.ntmps74; (go_wp2_with fail); (go_region_law (refine Cf.step_append_own rfl (.tmp 22) (.tmp 25) 29 rfl w0.heap.size 67 i0 2 Try.underlying29 hi0 hz1 g i cap (inner.take (i * 2)) (by simp [Act.eval, Act.put]) HO.out A d (cap - (i + 1)) news (by simp [Act.eval, Act.put]) HNL.out hsrc.out HN1.out (by omega) ?_; intro W1 hO1 hG1; have HO1 := Aside0.mk hO1; have HG1 := Aside0.mk hG1; have hcl := clr_ hO1; obtain ⟨W2, hW2⟩ : ∃ W2, W2 = W1.setCells g ((i + d) * 2) [.int .i64 0, .int .i64 0] := ⟨_, rfl⟩; rw [← hW2] at hcl; have HW2 := Aside0.mk hW2; clear hO1 hG1 hW2)); go_wp2; refine bodyPost_ret (v := .slice (some ⟨g, 0, none⟩) (i + d) cap) (by simp [results, Try.results74, go_sem]) rfl ?_; have hO2 := Cf.own_tail [.int .i64 0, .int .i64 0] ((i + d) * 2) W1 HO1.out (by omega) (by have := HC.out; simp; omega); rw [← HW2.out] at hO2; have hgr : w.grownBy W2 (some g) := ⟨hO2.2.os.trans HG1.out.os, hO2.2.tape.trans HG1.out.tape, hO2.2.output.trans HG1.out.output, Nat.le_trans HG1.out.size hO2.2.size, fun k hk hne => (hO2.2.block k (Nat.lt_of_lt_of_le hk HG1.out.size) hne).trans (HG1.out.block k hk hne)⟩; (have hel : l0.eraseIdx ((i : Int)).toNat = l0.take i ++ l0.drop (i + 1) := by rw [Int.toNat_natCast, List.eraseIdx_eq_take_drop_succ]); refine ⟨_, rfl, ⟨fun k hk => ?_, ?_⟩, ⟨hgr.os.trans HBW.out.os, hgr.tape.trans HBW.out.tape, hgr.output.trans HBW.out.output, Nat.le_trans HBW.out.size hgr.size, fun k hk => (hgr.block k (Nat.lt_of_lt_of_le hk HBW.out.size) (by have := HG.out.1; simp; omega)).trans (HBW.out.block k hk)⟩, ⟨hgr.size, fun k hk hn => hgr.block k hk (fun e => hn (by injection e with e; rw [e]; exact HG.out.2.1))⟩⟩
     ·(simp [Value.ownBlock] at hk); subst hk; exact .inl HG.out.2.1
     ·(have hlen : (l0.eraseIdx ((i : Int)).toNat).length = i + d := by rw [hel, List.length_append, List.length_take, List.length_drop, HD.out]; omega); refine ⟨inner.take (i * 2) ++ news, by rw [hlen]; exact hO2.1, ?_⟩; rw [hel, HNW.out]; have ht := Kd.reps_take (m := i) HR.out (by rw [HD.out]; omega); have hd2 := Kd.reps_drop (m := i + 1) HR.out; (refine (Kd.reps_append ht hd2).imp_ fun p c hp => ?_); refine Kd.M_mono k67 (fun k hk => ?_) (Kd.M_step hp (w1 := W2) fun k hk hlt => hgr.block k hlt (fun e => hk.2 (by rw [e]; rfl))); exact ⟨.inl hk.1, fun e => hk.2 (by rw [e]; rfl)⟩
   ·cases h
  ·cases h
 ·cases h
def impl_DropEdge.j0 : Nat → Int → Bool → Int → List (S67) → Option (Int × (List (S67)) × Bool)
 | 0, _, _, _, _ => none
 | k + 1, x1, x18, x102000, x102001 => if x18 = true then (some (0, ([] : List (S67)), false)) else ((impl_copyGraph.f x102000 x102001).bind fun bt105 => ((impl_Edge_74.f bt105.2 x1 (wrap64 (x1 + 1))).bind fun t110 => ((impl_GraphOk.f bt105.1 t110).bind fun t113 => (if t113 = true then (some (bt105.1, t110, true)) else (some (0, ([] : List (S67)), false))))))
def impl_DropEdge.f (k : Nat) (a0_0 : Int) (l0_1 : List (S67)) (a1 : Int) : Option (Int × (List (S67)) × Bool) := (impl_GraphOk.f a0_0 l0_1).bind fun t103 => (if t103 = true then ((impl_within.f a1 0 (wrap64 ((l0_1.length : Int) - 1))).bind fun t104 => (impl_DropEdge.j0 k a1 (!t104) a0_0 l0_1)) else (impl_DropEdge.j0 k a1 true a0_0 l0_1))
theorem impl_DropEdge.mono_l : ∀ k, (∀ y0 y1 y2 y3, LeO (impl_DropEdge.j0 k y0 y1 y2 y3) (impl_DropEdge.j0 (k + 1) y0 y1 y2 y3))
 | 0 => fun _ _ _ _ r h => by simp [impl_DropEdge.j0] at h
 | k + 1 => by
  have ih0 := impl_DropEdge.mono_l k
  ·intro y0 y1 y2 y3
   unfold impl_DropEdge.j0
   exact zm1
theorem impl_DropEdge.mono : ∀ a0 a1 a2 k, LeO (impl_DropEdge.f k a0 a1 a2) (impl_DropEdge.f (k + 1) a0 a1 a2) := by
 intro a0 a1 a2 k; have ih0 := impl_DropEdge.mono_l k; unfold impl_DropEdge.f; exact zm1
set_option maxHeartbeats 8000000 in
set_option maxRecDepth 100000 in
theorem impl_DropEdge.calls (k : Nat) (a0_0 : Int) (A0_1 : Option Addr) (c0_1 : Nat) (l0_1 : List (S67)) (a1 : Int) (r1 : Int) (r2 : List (S67)) (r3 : Bool) (w : World) (hr0_1 : Kd.C k67 w A0_1 l0_1.length l0_1) (hc0_1 : l0_1.length ≤ c0_1) (h : impl_DropEdge.f k a0_0 l0_1 a1 = some (r1, r2, r3)) :
  Calls Try.prog 46 #[.agg #[.int .i64 a0_0, .slice A0_1 l0_1.length c0_1], .int .i64 a1] w fun e w' => ∃ v1_ : Value, e = .returned (.tuple #[.agg #[.int .i64 r1, v1_], .bool r3]) ∧ Kd.R k67 67 w' w.heap.size (fun _ => True) v1_ r2 ∧ Below w.heap.size w w' := by
 have hu31 := Try.underlying31; have HR0_1 := Aside0.mk hr0_1; have HC0_1 := Aside0.mk hc0_1; clear hr0_1 hc0_1; have HB := Aside0.mk (Below.refl w.heap.size w); have H : ((impl_GraphOk.f a0_0 l0_1).bind fun t103 => (if t103 = true then ((impl_within.f a1 0 (wrap64 ((l0_1.length : Int) - 1))).bind fun t104 => (impl_DropEdge.j0 k a1 (!t104) a0_0 l0_1)) else (impl_DropEdge.j0 k a1 true a0_0 l0_1))) = some (r1, r2, r3) := h; clear h; have HC3 := Aside0.mk H; clear H; go_enter Try.func46, Try.ntmps46; (go_upto_region 1 with (first | ((with_reducible refine gate_dst (N := 2) rfl ?_); (try (refine gate_guard (by rfl) ?_; dsimp only)); refine box_event ?hg (N := 2) ?hd (cs := #[.int .i64 a0_0, .slice A0_1 l0_1.length c0_1]) (t := 31) ?hr ?_; (case hd => rfl); (case hg => rfl); (case hr => exact zz11); intro gb101 hg w4 hbox hb; have n_ := zA4 (below_step zz2 hb) hbox (zz10 : w.heap.size ≤ gb101) (zz10 : w.heap.size ≤ gb101); clear HB; obtain ⟨HB, BK101, GW101, GE101⟩ := n_; clear hb hbox hg) | ((with_reducible refine gate_dst (N := 4) rfl ?_); (try (refine gate_guard (by rfl) ?_; dsimp only)); refine box_event ?hg (N := 4) ?hd (cs := #[.int .i64 0, .slice none 0 0]) (t := 31) ?hr ?_; (case hd => rfl); (case hg => rfl); (case hr => exact zz11); intro gb102 hg w5 hbox hb; have n_ := zA7 (blk_below (g := gb101) (o := .cells #[.int .i64 a0_0, .slice A0_1 l0_1.length c0_1] 31 (0, 0)) zz1 hb) (below_step zz0 hb) hbox (zz14 : w.heap.size ≤ gb102) (zz14 : w.heap.size ≤ gb102) (zz23 : gb101 ≠ gb102) (zz24 : gb102 ≠ gb101); clear BK101 HB; obtain ⟨BK101, HB, BK102, GW102, GE102, NB101_102, NB102_101⟩ := n_; clear hb hbox hg))); (try simp only [Act.put, List.setIfInBounds_toArray, List.set_cons_zero, List.set_cons_succ]); go_cut [18] (fun v18 wc => ∃ (kq : Nat) (x18_2 : Bool), v18 = .bool x18_2 ∧ Aside0 (impl_DropEdge.j0 kq a1 x18_2 a0_0 l0_1 = some (r1, r2, r3)) ∧ Aside0 (kq ≤ k) ∧ Aside0 (wc.heap[gb101]? = some (.cells #[.int .i64 a0_0, (.slice A0_1 l0_1.length c0_1)] 31 (0, 0))) ∧ Aside0 (wc.heap[gb102]? = some (.cells #[.int .i64 0, (.slice none 0 0)] 31 (0, 0))) ∧ Aside0 (Below w.heap.size w wc))
 case first =>
  have H := HC3.out; clear HC3; replace H := Option.bind_eq_some_iff.mp H; obtain ⟨t103, A60, H⟩ := H; (try dsimp only at H); have A6 := Aside0.mk A60; clear A60; by_cases c7 : t103 = true; rotate_left
  ·replace c7 := Bool.eq_false_iff.mpr c7; subst c7; rw [if_neg (show ¬ (false = true) by decide)] at H; have H' := Aside0.mk H; clear H; have hnb13 := NB101_102.out; have hnc13 := NB102_101.out; have hcz14_0 := zC20 BK101; have hcz14_1 := zC21 BK101; have hfz14_0 := blk_frozen BK101.out 0; have hfz14_1 := blk_frozen BK101.out 1; (go_wp2_with (first | ((with_reducible refine gate_callee (f := 32) rfl ?_); refine goesL_ (some 8) rfl rfl Try.func32 (by kernel_rfl) rfl #[.agg #[.int .i64 a0_0, .slice A0_1 l0_1.length c0_1]] rfl zz3 ?_; (with_reducible refine (impl_GraphOk.calls a0_0 _ _ l0_1 false _ ?side1 ?side2 A6.out).mono ?_); (case side1 => exact zz5); (case side2 => exact HC0_1.out); rintro e w15 ⟨rfl, hb⟩; refine ⟨_, rfl, ?_⟩; have n_ := zA3 (blk_below (g := gb101) (o := .cells #[.int .i64 a0_0, .slice A0_1 l0_1.length c0_1] 31 (0, 0)) zz1 hb) (blk_below (g := gb102) (o := .cells #[.int .i64 0, .slice none 0 0] 31 (0, 0)) zz15 hb) (below_step zz9 hb); clear BK101 BK102 HB; obtain ⟨BK101, BK102, HB⟩ := n_; clear hb))); (go_meet); case rel => exact ⟨_, (true), zz6, H', ⟨by first | omega | exact Nat.le_refl _⟩, ⟨zz1⟩, ⟨by (with_reducible repeat (first | refine blk_drewN ?_ _ | refine blk_drew ?_ | refine blk_alloc ?_ _)); exact BK102.out⟩, ⟨zz9⟩⟩
  subst c7; rw [if_pos rfl] at H; replace H := Option.bind_eq_some_iff.mp H; obtain ⟨t104, A80, H⟩ := H; (try dsimp only at H); have A8 := Aside0.mk A80; clear A80; have H' := Aside0.mk H; clear H; have hnb9 := NB101_102.out; have hnc9 := NB102_101.out; have hcz10_0 := zC20 BK101; have hcz10_1 := zC21 BK101; have hfz10_0 := blk_frozen BK101.out 0; have hfz10_1 := blk_frozen BK101.out 1; (go_wp2_with (first | ((with_reducible refine gate_callee (f := 32) rfl ?_); refine goesL_ (some 8) rfl rfl Try.func32 (by kernel_rfl) rfl #[.agg #[.int .i64 a0_0, .slice A0_1 l0_1.length c0_1]] rfl zz3 ?_; (with_reducible refine (impl_GraphOk.calls a0_0 _ _ l0_1 true _ ?side1 ?side2 A6.out).mono ?_); (case side1 => exact zz5); (case side2 => exact HC0_1.out); rintro e w11 ⟨rfl, hb⟩; refine ⟨_, rfl, ?_⟩; have n_ := zA3 (blk_below (g := gb101) (o := .cells #[.int .i64 a0_0, .slice A0_1 l0_1.length c0_1] 31 (0, 0)) zz1 hb) (blk_below (g := gb102) (o := .cells #[.int .i64 0, .slice none 0 0] 31 (0, 0)) zz15 hb) (below_step zz9 hb); clear BK101 BK102 HB; obtain ⟨BK101, BK102, HB⟩ := n_; clear hb; have hcz12_0 := zC20 BK101; have hcz12_1 := zC21 BK101; have hfz12_0 := blk_frozen BK101.out 0; have hfz12_1 := blk_frozen BK101.out 1) | (go_at_call 45; (with_reducible refine (impl_within.calls a1 0 (wrap64 ((l0_1.length : Int) - 1)) t104 _ A8.out).mono ?_); rintro e w' ⟨rfl, ⟨nd, rfl⟩⟩))); (go_meet); case rel => exact ⟨_, (!t104), zz6, H', ⟨by first | omega | exact Nat.le_refl _⟩, ⟨zz1⟩, ⟨by (with_reducible repeat (first | refine blk_drewN ?_ _ | refine blk_drew ?_ | refine blk_alloc ?_ _)); exact BK102.out⟩, ⟨zz9⟩⟩
 case rest =>
  clear HC3; (try clear c1); (try clear p2); (try clear c3); (try clear c4); (try clear p6); (try clear c7); (try clear c9); (try clear c13); (try clear hcz10_0); (try clear hcz10_1); (try clear hcz12_0); (try clear hcz12_1); (try clear hcz14_0); (try clear hcz14_1); (try clear hfz10_0); (try clear hfz10_1); (try clear hfz12_0); (try clear hfz12_1); (try clear hfz14_0); (try clear hfz14_1); obtain ⟨kq, x18_2, rfl, HA, HJ2, BK101, BK102, HB⟩ := hcut
  cases kq with
  | zero => exact absurd HA.out (by simp [impl_DropEdge.j0])
  | succ kj2 =>
   have H := HA.out; clear HA; simp only [impl_DropEdge.j0] at H; by_cases c16 : x18_2 = true
   ·subst c16; rw [if_pos rfl] at H; simp only [Option.some.injEq, Prod.mk.injEq] at H; obtain ⟨rfl, rfl, rfl⟩ := H; have hnb17 := NB102_101.out; have hnc17 := NB101_102.out; have hcz18_0 := zC20 BK102; have hcz18_1 := zC21 BK102; have hfz18_0 := blk_frozen BK102.out 0; have hfz18_1 := blk_frozen BK102.out 1; go_wp2; refine bodyPost_ret (results_ct rfl _ _ gb102 31 #[.int .i64 0, .slice none 0 0] (0, 0) _ rfl zz45 Try.underlying31 rfl (by kernel_rfl)) rfl ?_; exact ⟨_, zz7, zz26, zz9⟩
   replace c16 := Bool.eq_false_iff.mpr c16; subst c16; rw [if_neg (show ¬ (false = true) by decide)] at H; replace H := Option.bind_eq_some_iff.mp H; obtain ⟨⟨t105, t106⟩, A190, H⟩ := H; dsimp only at H; have A19 := Aside0.mk A190; clear A190; replace H := Option.bind_eq_some_iff.mp H; obtain ⟨t110, A200, H⟩ := H; (try dsimp only at H); have A20 := Aside0.mk A200; clear A200; replace H := Option.bind_eq_some_iff.mp H; obtain ⟨t113, A210, H⟩ := H; (try dsimp only at H); have A21 := Aside0.mk A210; clear A210; by_cases c22 : t113 = true
   ·subst c22; rw [if_pos rfl] at H; simp only [Option.some.injEq, Prod.mk.injEq] at H; obtain ⟨rfl, rfl, rfl⟩ := H; have hnb23 := NB101_102.out; have hnc23 := NB102_101.out; have hcz24_0 := zC20 BK101; have hcz24_1 := zC21 BK101; have hfz24_0 := blk_frozen BK101.out 0; have hfz24_1 := blk_frozen BK101.out 1; (go_wp2_with (first | ((with_reducible refine gate_callee (f := 73) rfl ?_); refine goesL_ (some 21) rfl rfl Try.func73 (by kernel_rfl) rfl #[.agg #[.int .i64 a0_0, .slice A0_1 l0_1.length c0_1]] rfl zz3 ?_; (with_reducible refine (impl_copyGraph.calls a0_0 _ _ l0_1 t105 t106 _ ?side1 ?side2 A19.out).mono ?_); (case side1 => exact zz5); (case side2 => exact HC0_1.out); rintro e w25 ⟨v107, rfl, ho0, hb⟩; refine ⟨_, rfl, ?_⟩; have n_ := zA4 (Kd.R_lower ho0 (below_size zz9)) (blk_below (g := gb101) (o := .cells #[.int .i64 a0_0, .slice A0_1 l0_1.length c0_1] 31 (0, 0)) zz1 hb) (blk_below (g := gb102) (o := .cells #[.int .i64 0, .slice none 0 0] 31 (0, 0)) zz15 hb) (below_step zz9 hb); clear BK101 BK102 HB; obtain ⟨HO108, BK101, BK102, HB⟩ := n_; clear ho0 hb) | ((with_reducible refine gate_dst (N := 6) rfl ?_); (try (refine gate_guard (by rfl) ?_; dsimp only)); refine box_event ?hg (N := 6) ?hd (cs := #[.int .i64 0, .slice none 0 0]) (t := 31) ?hr ?_; (case hd => rfl); (case hg => rfl); (case hr => exact zz11); intro gb109 hg w26 hbox hb; have n_ := zA11 (Kd.R_below (by (with_reducible repeat (first | apply Kd.R_alloc | apply Kd.R_drewN | apply Kd.R_drew)); exact HO108.out) hb) (blk_below (g := gb101) (o := .cells #[.int .i64 a0_0, .slice A0_1 l0_1.length c0_1] 31 (0, 0)) zz1 hb) (blk_below (g := gb102) (o := .cells #[.int .i64 0, .slice none 0 0] 31 (0, 0)) zz15 hb) (below_step zz9 hb) hbox (by rw [hg]; exact (below_size zz9) : w.heap.size ≤ gb109) (by rw [hg]; exact (below_size zz9) : w.heap.size ≤ gb109) (zz23 : gb101 ≠ gb109) (zz24 : gb109 ≠ gb101) (by rw [hg]; exact Nat.ne_of_lt (blk_lt (g := gb102) (o := .cells #[.int .i64 0, .slice none 0 0] 31 (0, 0)) zz15) : gb102 ≠ gb109) (by rw [hg]; exact Nat.ne_of_gt (blk_lt (g := gb102) (o := .cells #[.int .i64 0, .slice none 0 0] 31 (0, 0)) zz15) : gb109 ≠ gb102); clear HO108 BK101 BK102 HB; obtain ⟨HO108, BK101, BK102, HB, BK109, GW109, GE109, NB101_109, NB109_101, NB102_109, NB109_102⟩ := n_; clear hb hbox hg; have hnb27 := NB109_101.out; have hnc27 := NB101_109.out; have hnb28 := NB109_102.out; have hnc28 := NB102_109.out; have hcz29_0 := zC20 BK109; have hcz29_1 := zC21 BK109; have hfz29_0 := blk_frozen BK109.out 0; have hfz29_1 := blk_frozen BK109.out 1; obtain ⟨Ao30, co30, eo30⟩ := Kd.R_slice HO108.out; subst eo30) | ((with_reducible refine gate_store (t := 31) (p := 6) rfl ?_); refine store_event (t := 31) (p := 6) (v := ?vo_w31) (w1 := ((w26.setCell ⟨gb109, 0, none⟩ (.int .i64 t105)).setCell ⟨gb109, 1, none⟩ (.slice Ao30 t106.length co30))) ?hg ?ho ?hn ?hr ?_; (case ho => rfl); (case hg => rfl); (case hn => rfl); (case hr => exact zz11); intro w31 hw; have n0_ : Aside0 (Kd.R k67 67 w31 w.heap.size (fun _ => True) (.slice Ao30 t106.length co30) t106) := ⟨(by rw [hw]; exact (by (with_reducible repeat (first | apply Kd.R_alloc | apply Kd.R_drewN | apply Kd.R_drew)); exact Kd.R_mono (Kd.R_far (p := ⟨gb109, 1, none⟩) (Kd.R_far (p := ⟨gb109, 0, none⟩) (Kd.R_types HO108.out BK109.out (by decide)) (fun _ hk => hk.2) (.int .i64 t105)) (fun _ hk => hk.2) (.slice Ao30 t106.length co30)) (fun _ hk => trivial)))⟩; have n1_ : Aside0 (w31.heap[gb101]? = some (.cells #[.int .i64 a0_0, .slice A0_1 l0_1.length c0_1] 31 (0, 0))) := ⟨zz50⟩; have n2_ : Aside0 (w31.heap[gb102]? = some (.cells #[.int .i64 0, .slice none 0 0] 31 (0, 0))) := ⟨zz51⟩; have n3_ : Aside0 (w31.heap[gb109]? = some (.cells #[.int .i64 t105, .slice Ao30 t106.length co30] 31 (0, 0))) := ⟨zz41⟩; have n4_ : Aside0 (Below w.heap.size w w31) := ⟨(by rw [hw]; exact zz32)⟩; clear hw; clear HO108; clear BK101; clear BK102; clear BK109; clear HB; have HO108 := n0_; have BK101 := n1_; have BK102 := n2_; have BK109 := n3_; have HB := n4_; clear n0_ n1_ n2_ n3_ n4_; have hcz32_0 := zC20 BK109; have hcz32_1 := zC21 BK109; have hfz32_0 := blk_frozen BK109.out 0; have hfz32_1 := blk_frozen BK109.out 1) | ((with_reducible refine gate_callee (f := 74) rfl ?_); refine goesL_ (some 27) rfl rfl Try.func74 (by kernel_rfl) rfl #[.slice Ao30 t106.length co30, .int .i64 a1, .int .i64 (wrap64 (a1 + 1))] rfl zz3 ?_; (with_reducible refine (impl_Edge_74.calls (fun k_ => some k_ = (.slice Ao30 t106.length co30 : Value).ownBlock) (.slice Ao30 t106.length co30) t106 a1 (wrap64 (a1 + 1)) t110 w _ ?side1 ?side2 A20.out).mono ?_); (case side1 => repeat (first | (with_reducible first | exact HB.out | apply below_alloc | apply pw_below_drewN | apply below_drew1 | refine below_set ?_ GE101.out | refine below_set ?_ GE102.out | refine below_set ?_ GE109.out) | exact HB.out)); (case side2 => exact Kd.R_tight rfl HO108.out); rintro e w33 ⟨v111, rfl, ho0, hb, hkp⟩; refine ⟨_, rfl, ?_⟩; have n_ := zA5 (blk_kept zz1 hkp (fun hs_ => (fun e_ => (Kd.R_ne HO108.out BK101.out (by decide)) e_) hs_)) (blk_kept zz15 hkp (fun hs_ => (fun e_ => (Kd.R_ne HO108.out BK102.out (by decide)) e_) hs_)) (blk_kept (by (with_reducible repeat (first | refine blk_drewN ?_ _ | refine blk_drew ?_ | refine blk_alloc ?_ _)); exact BK109.out) hkp (fun hs_ => (fun e_ => (Kd.R_ne HO108.out BK109.out (by decide)) e_) hs_)) (Kd.R_mono (ok' := fun k_ => True) ho0 (fun k_ hk_ => trivial)) hb; clear BK101 BK102 BK109 HB HO108; obtain ⟨BK101, BK102, BK109, HO112, HB⟩ := n_; clear ho0 hb hkp; obtain ⟨Ao34, co34, eo34⟩ := Kd.R_slice HO112.out; subst eo34; have hcz35_0 := zC20 BK109; have hcz35_1 := zC21 BK109; have hfz35_0 := blk_frozen BK109.out 0; have hfz35_1 := blk_frozen BK109.out 1) | ((with_reducible refine gate_callee (f := 32) rfl ?_); refine goesL_ (some 30) rfl rfl Try.func32 (by kernel_rfl) rfl #[.agg #[.int .i64 t105, .slice Ao34 t110.length co34]] rfl zz3 ?_; (with_reducible refine (impl_GraphOk.calls t105 _ _ t110 true _ ?side1 ?side2 A21.out).mono ?_); (case side1 => refine (Kd.R_reads' (e := 67) (base := w.heap.size) (ok := fun k_ => True) (n := t110.length) (c := co34) ?_).2.2; exact (by (with_reducible repeat (first | apply Kd.R_alloc | apply Kd.R_drewN | apply Kd.R_drew)); exact (Kd.R_mono (Kd.R_far (p := ⟨gb109, 1, none⟩) (Kd.R_types HO112.out BK109.out (by decide)) (fun _ hk => hk.2) (.slice Ao34 t110.length co34)) (fun _ h_ => h_.1)))); (case side2 => exact (Kd.R_reads' HO112.out).2.1); rintro e w36 ⟨rfl, hb⟩; refine ⟨_, rfl, ?_⟩; have n_ := zA5 (Kd.R_below (by (with_reducible repeat (first | apply Kd.R_alloc | apply Kd.R_drewN | apply Kd.R_drew)); exact (Kd.R_mono (Kd.R_far (p := ⟨gb109, 1, none⟩) (Kd.R_types HO112.out BK109.out (by decide)) (fun _ hk => hk.2) (.slice Ao34 t110.length co34)) (fun _ h_ => h_.1))) hb) (blk_below (g := gb101) (o := .cells #[.int .i64 a0_0, .slice A0_1 l0_1.length c0_1] 31 (0, 0)) (by (with_reducible repeat (first | refine blk_drewN ?_ _ | refine blk_drew ?_ | refine blk_alloc ?_ _)); refine blk_far ?_ NB101_109.out _; (with_reducible repeat (first | refine blk_drewN ?_ _ | refine blk_drew ?_ | refine blk_alloc ?_ _)); exact BK101.out) hb) (blk_below (g := gb102) (o := .cells #[.int .i64 0, .slice none 0 0] 31 (0, 0)) (by (with_reducible repeat (first | refine blk_drewN ?_ _ | refine blk_drew ?_ | refine blk_alloc ?_ _)); refine blk_far ?_ NB102_109.out _; (with_reducible repeat (first | refine blk_drewN ?_ _ | refine blk_drew ?_ | refine blk_alloc ?_ _)); exact BK102.out) hb) (blk_below (g := gb109) (o := .cells #[.int .i64 t105, .slice Ao34 t110.length co34] 31 (0, 0)) (by (with_reducible repeat (first | refine blk_drewN ?_ _ | refine blk_drew ?_ | refine blk_alloc ?_ _)); refine blk_put (cs := #[.int .i64 t105, .slice Ao30 t106.length co30]) ?_ 1 _ rfl; (with_reducible repeat (first | refine blk_drewN ?_ _ | refine blk_drew ?_ | refine blk_alloc ?_ _)); exact BK109.out) hb) (below_step zz32 hb); clear HO112 BK101 BK102 BK109 HB; obtain ⟨HO112, BK101, BK102, BK109, HB⟩ := n_; clear hb; have hcz37_0 := zC20 BK109; have hcz37_1 := zC21 BK109; have hfz37_0 := blk_frozen BK109.out 0; have hfz37_1 := blk_frozen BK109.out 1; have hcz38_0 := zC20 BK102; have hcz38_1 := zC21 BK102; have hfz38_0 := blk_frozen BK102.out 0; have hfz38_1 := blk_frozen BK102.out 1))); refine bodyPost_ret (results_ct rfl _ _ gb102 31 #[.int .i64 t105, .slice Ao34 t110.length co34] (0, 0) _ rfl (by (with_reducible repeat (first | refine blk_drewN ?_ _ | refine blk_drew ?_ | refine blk_alloc ?_ _)); refine blk_put (cs := #[.int .i64 t105, .slice none 0 0]) ?_ 1 _ rfl; (with_reducible repeat (first | refine blk_drewN ?_ _ | refine blk_drew ?_ | refine blk_alloc ?_ _)); refine blk_put (cs := #[.int .i64 0, .slice none 0 0]) ?_ 0 _ rfl; (with_reducible repeat (first | refine blk_drewN ?_ _ | refine blk_drew ?_ | refine blk_alloc ?_ _)); exact BK102.out) Try.underlying31 rfl (by kernel_rfl)) rfl ?_; exact ⟨_, zz7, by (with_reducible repeat (first | apply Kd.R_alloc | apply Kd.R_drewN | apply Kd.R_drew)); exact Kd.R_mono (Kd.R_far (p := ⟨gb102, 1, none⟩) (Kd.R_far (p := ⟨gb102, 0, none⟩) (Kd.R_types HO112.out BK102.out (by decide)) (fun _ hk => hk.2) (.int .i64 t105)) (fun _ hk => hk.2) (.slice Ao34 t110.length co34)) (fun _ hk => trivial), by repeat (first | (with_reducible first | exact HB.out | apply below_alloc | apply pw_below_drewN | apply below_drew1 | refine below_set ?_ GE101.out | refine below_set ?_ GE102.out | refine below_set ?_ GE109.out) | exact HB.out)⟩
   replace c22 := Bool.eq_false_iff.mpr c22; subst c22; rw [if_neg (show ¬ (false = true) by decide)] at H; simp only [Option.some.injEq, Prod.mk.injEq] at H; obtain ⟨rfl, rfl, rfl⟩ := H; have hnb39 := NB101_102.out; have hnc39 := NB102_101.out; have hcz40_0 := zC20 BK101; have hcz40_1 := zC21 BK101; have hfz40_0 := blk_frozen BK101.out 0; have hfz40_1 := blk_frozen BK101.out 1; (go_wp2_with (first | ((with_reducible refine gate_callee (f := 73) rfl ?_); refine goesL_ (some 21) rfl rfl Try.func73 (by kernel_rfl) rfl #[.agg #[.int .i64 a0_0, .slice A0_1 l0_1.length c0_1]] rfl zz3 ?_; (with_reducible refine (impl_copyGraph.calls a0_0 _ _ l0_1 t105 t106 _ ?side1 ?side2 A19.out).mono ?_); (case side1 => exact zz5); (case side2 => exact HC0_1.out); rintro e w41 ⟨v107, rfl, ho0, hb⟩; refine ⟨_, rfl, ?_⟩; have n_ := zA4 (Kd.R_lower ho0 (below_size zz9)) (blk_below (g := gb101) (o := .cells #[.int .i64 a0_0, .slice A0_1 l0_1.length c0_1] 31 (0, 0)) zz1 hb) (blk_below (g := gb102) (o := .cells #[.int .i64 0, .slice none 0 0] 31 (0, 0)) zz15 hb) (below_step zz9 hb); clear BK101 BK102 HB; obtain ⟨HO108, BK101, BK102, HB⟩ := n_; clear ho0 hb) | ((with_reducible refine gate_dst (N := 6) rfl ?_); (try (refine gate_guard (by rfl) ?_; dsimp only)); refine box_event ?hg (N := 6) ?hd (cs := #[.int .i64 0, .slice none 0 0]) (t := 31) ?hr ?_; (case hd => rfl); (case hg => rfl); (case hr => exact zz11); intro gb109 hg w42 hbox hb; have n_ := zA11 (Kd.R_below (by (with_reducible repeat (first | apply Kd.R_alloc | apply Kd.R_drewN | apply Kd.R_drew)); exact HO108.out) hb) (blk_below (g := gb101) (o := .cells #[.int .i64 a0_0, .slice A0_1 l0_1.length c0_1] 31 (0, 0)) zz1 hb) (blk_below (g := gb102) (o := .cells #[.int .i64 0, .slice none 0 0] 31 (0, 0)) zz15 hb) (below_step zz9 hb) hbox (by rw [hg]; exact (below_size zz9) : w.heap.size ≤ gb109) (by rw [hg]; exact (below_size zz9) : w.heap.size ≤ gb109) (zz23 : gb101 ≠ gb109) (zz24 : gb109 ≠ gb101) (by rw [hg]; exact Nat.ne_of_lt (blk_lt (g := gb102) (o := .cells #[.int .i64 0, .slice none 0 0] 31 (0, 0)) zz15) : gb102 ≠ gb109) (by rw [hg]; exact Nat.ne_of_gt (blk_lt (g := gb102) (o := .cells #[.int .i64 0, .slice none 0 0] 31 (0, 0)) zz15) : gb109 ≠ gb102); clear HO108 BK101 BK102 HB; obtain ⟨HO108, BK101, BK102, HB, BK109, GW109, GE109, NB101_109, NB109_101, NB102_109, NB109_102⟩ := n_; clear hb hbox hg; have hnb43 := NB109_101.out; have hnc43 := NB101_109.out; have hnb44 := NB109_102.out; have hnc44 := NB102_109.out; have hcz45_0 := zC20 BK109; have hcz45_1 := zC21 BK109; have hfz45_0 := blk_frozen BK109.out 0; have hfz45_1 := blk_frozen BK109.out 1; obtain ⟨Ao46, co46, eo46⟩ := Kd.R_slice HO108.out; subst eo46) | ((with_reducible refine gate_store (t := 31) (p := 6) rfl ?_); refine store_event (t := 31) (p := 6) (v := ?vo_w47) (w1 := ((w42.setCell ⟨gb109, 0, none⟩ (.int .i64 t105)).setCell ⟨gb109, 1, none⟩ (.slice Ao46 t106.length co46))) ?hg ?ho ?hn ?hr ?_; (case ho => rfl); (case hg => rfl); (case hn => rfl); (case hr => exact zz11); intro w47 hw; have n0_ : Aside0 (Kd.R k67 67 w47 w.heap.size (fun _ => True) (.slice Ao46 t106.length co46) t106) := ⟨(by rw [hw]; exact (by (with_reducible repeat (first | apply Kd.R_alloc | apply Kd.R_drewN | apply Kd.R_drew)); exact Kd.R_mono (Kd.R_far (p := ⟨gb109, 1, none⟩) (Kd.R_far (p := ⟨gb109, 0, none⟩) (Kd.R_types HO108.out BK109.out (by decide)) (fun _ hk => hk.2) (.int .i64 t105)) (fun _ hk => hk.2) (.slice Ao46 t106.length co46)) (fun _ hk => trivial)))⟩; have n1_ : Aside0 (w47.heap[gb101]? = some (.cells #[.int .i64 a0_0, .slice A0_1 l0_1.length c0_1] 31 (0, 0))) := ⟨zz50⟩; have n2_ : Aside0 (w47.heap[gb102]? = some (.cells #[.int .i64 0, .slice none 0 0] 31 (0, 0))) := ⟨zz51⟩; have n3_ : Aside0 (w47.heap[gb109]? = some (.cells #[.int .i64 t105, .slice Ao46 t106.length co46] 31 (0, 0))) := ⟨zz41⟩; have n4_ : Aside0 (Below w.heap.size w w47) := ⟨(by rw [hw]; exact zz32)⟩; clear hw; clear HO108; clear BK101; clear BK102; clear BK109; clear HB; have HO108 := n0_; have BK101 := n1_; have BK102 := n2_; have BK109 := n3_; have HB := n4_; clear n0_ n1_ n2_ n3_ n4_; have hcz48_0 := zC20 BK109; have hcz48_1 := zC21 BK109; have hfz48_0 := blk_frozen BK109.out 0; have hfz48_1 := blk_frozen BK109.out 1) | ((with_reducible refine gate_callee (f := 74) rfl ?_); refine goesL_ (some 27) rfl rfl Try.func74 (by kernel_rfl) rfl #[.slice Ao46 t106.length co46, .int .i64 a1, .int .i64 (wrap64 (a1 + 1))] rfl zz3 ?_; (with_reducible refine (impl_Edge_74.calls (fun k_ => some k_ = (.slice Ao46 t106.length co46 : Value).ownBlock) (.slice Ao46 t106.length co46) t106 a1 (wrap64 (a1 + 1)) t110 w _ ?side1 ?side2 A20.out).mono ?_); (case side1 => repeat (first | (with_reducible first | exact HB.out | apply below_alloc | apply pw_below_drewN | apply below_drew1 | refine below_set ?_ GE101.out | refine below_set ?_ GE102.out | refine below_set ?_ GE109.out) | exact HB.out)); (case side2 => exact Kd.R_tight rfl HO108.out); rintro e w49 ⟨v111, rfl, ho0, hb, hkp⟩; refine ⟨_, rfl, ?_⟩; have n_ := zA5 (blk_kept zz1 hkp (fun hs_ => (fun e_ => (Kd.R_ne HO108.out BK101.out (by decide)) e_) hs_)) (blk_kept zz15 hkp (fun hs_ => (fun e_ => (Kd.R_ne HO108.out BK102.out (by decide)) e_) hs_)) (blk_kept (by (with_reducible repeat (first | refine blk_drewN ?_ _ | refine blk_drew ?_ | refine blk_alloc ?_ _)); exact BK109.out) hkp (fun hs_ => (fun e_ => (Kd.R_ne HO108.out BK109.out (by decide)) e_) hs_)) (Kd.R_mono (ok' := fun k_ => True) ho0 (fun k_ hk_ => trivial)) hb; clear BK101 BK102 BK109 HB HO108; obtain ⟨BK101, BK102, BK109, HO112, HB⟩ := n_; clear ho0 hb hkp; obtain ⟨Ao50, co50, eo50⟩ := Kd.R_slice HO112.out; subst eo50; have hcz51_0 := zC20 BK109; have hcz51_1 := zC21 BK109; have hfz51_0 := blk_frozen BK109.out 0; have hfz51_1 := blk_frozen BK109.out 1) | ((with_reducible refine gate_callee (f := 32) rfl ?_); refine goesL_ (some 30) rfl rfl Try.func32 (by kernel_rfl) rfl #[.agg #[.int .i64 t105, .slice Ao50 t110.length co50]] rfl zz3 ?_; (with_reducible refine (impl_GraphOk.calls t105 _ _ t110 false _ ?side1 ?side2 A21.out).mono ?_); (case side1 => refine (Kd.R_reads' (e := 67) (base := w.heap.size) (ok := fun k_ => True) (n := t110.length) (c := co50) ?_).2.2; exact (by (with_reducible repeat (first | apply Kd.R_alloc | apply Kd.R_drewN | apply Kd.R_drew)); exact (Kd.R_mono (Kd.R_far (p := ⟨gb109, 1, none⟩) (Kd.R_types HO112.out BK109.out (by decide)) (fun _ hk => hk.2) (.slice Ao50 t110.length co50)) (fun _ h_ => h_.1)))); (case side2 => exact (Kd.R_reads' HO112.out).2.1); rintro e w52 ⟨rfl, hb⟩; refine ⟨_, rfl, ?_⟩; have n_ := zA5 (Kd.R_below (by (with_reducible repeat (first | apply Kd.R_alloc | apply Kd.R_drewN | apply Kd.R_drew)); exact (Kd.R_mono (Kd.R_far (p := ⟨gb109, 1, none⟩) (Kd.R_types HO112.out BK109.out (by decide)) (fun _ hk => hk.2) (.slice Ao50 t110.length co50)) (fun _ h_ => h_.1))) hb) (blk_below (g := gb101) (o := .cells #[.int .i64 a0_0, .slice A0_1 l0_1.length c0_1] 31 (0, 0)) (by (with_reducible repeat (first | refine blk_drewN ?_ _ | refine blk_drew ?_ | refine blk_alloc ?_ _)); refine blk_far ?_ NB101_109.out _; (with_reducible repeat (first | refine blk_drewN ?_ _ | refine blk_drew ?_ | refine blk_alloc ?_ _)); exact BK101.out) hb) (blk_below (g := gb102) (o := .cells #[.int .i64 0, .slice none 0 0] 31 (0, 0)) (by (with_reducible repeat (first | refine blk_drewN ?_ _ | refine blk_drew ?_ | refine blk_alloc ?_ _)); refine blk_far ?_ NB102_109.out _; (with_reducible repeat (first | refine blk_drewN ?_ _ | refine blk_drew ?_ | refine blk_alloc ?_ _)); exact BK102.out) hb) (blk_below (g := gb109) (o := .cells #[.int .i64 t105, .slice Ao50 t110.length co50] 31 (0, 0)) (by (with_reducible repeat (first | refine blk_drewN ?_ _ | refine blk_drew ?_ | refine blk_alloc ?_ _)); refine blk_put (cs := #[.int .i64 t105, .slice Ao46 t106.length co46]) ?_ 1 _ rfl; (with_reducible repeat (first | refine blk_drewN ?_ _ | refine blk_drew ?_ | refine blk_alloc ?_ _)); exact BK109.out) hb) (below_step zz32 hb); clear HO112 BK101 BK102 BK109 HB; obtain ⟨HO112, BK101, BK102, BK109, HB⟩ := n_; clear hb; have hcz53_0 := zC20 BK102; have hcz53_1 := zC21 BK102; have hfz53_0 := blk_frozen BK102.out 0; have hfz53_1 := blk_frozen BK102.out 1))); refine bodyPost_ret (results_ct rfl _ _ gb102 31 #[.int .i64 0, .slice none 0 0] (0, 0) _ rfl zz45 Try.underlying31 rfl (by kernel_rfl)) rfl ?_; exact ⟨_, zz7, zz26, by repeat (first | (with_reducible first | exact HB.out | apply below_alloc | apply pw_below_drewN | apply below_drew1 | refine below_set ?_ GE101.out | refine below_set ?_ GE102.out | refine below_set ?_ GE109.out) | exact HB.out)⟩
def impl_IsBridge.f (k : Nat) (a0_0 : Int) (l0_1 : List (S67)) (a1 : Int) : Option (Bool) := (impl_GraphOk.f a0_0 l0_1).bind fun t102 => (if t102 = true then ((impl_within.f a1 0 (wrap64 ((l0_1.length : Int) - 1))).bind fun t103 => (if t103 = true then ((impl_DropEdge.f k a0_0 l0_1 a1).bind fun bt104 => (some (!bt104.2.2))) else (some false))) else (some false))
theorem impl_IsBridge.mono : ∀ a0 a1 a2 k, LeO (impl_IsBridge.f k a0 a1 a2) (impl_IsBridge.f (k + 1) a0 a1 a2) := by
 intro a0 a1 a2 k; unfold impl_IsBridge.f; repeat' first | (with_reducible apply impl_DropEdge.mono) | (with_reducible exact LeO.refl _) | (with_reducible exact LeO.none _) | (with_reducible refine LeO.ite ?_ ?_) | (with_reducible refine LeO.bind ?_ (fun _ => ?_)) | apply impl_DropEdge.mono | exact LeO.none _ | refine LeO.ite ?_ ?_ | refine LeO.bind ?_ (fun _ => ?_)
set_option maxHeartbeats 8000000 in
set_option maxRecDepth 100000 in
theorem impl_IsBridge.calls (k : Nat) (a0_0 : Int) (A0_1 : Option Addr) (c0_1 : Nat) (l0_1 : List (S67)) (a1 : Int) (r : Bool) (w : World) (hr0_1 : Kd.C k67 w A0_1 l0_1.length l0_1) (hc0_1 : l0_1.length ≤ c0_1) (h : impl_IsBridge.f k a0_0 l0_1 a1 = some r) :
  Calls Try.prog 20 #[.agg #[.int .i64 a0_0, .slice A0_1 l0_1.length c0_1], .int .i64 a1] w fun e w' => e = .returned (.bool r) ∧ Below w.heap.size w w' := by
 have hu31 := Try.underlying31; have HR0_1 := Aside0.mk hr0_1; have HC0_1 := Aside0.mk hc0_1; clear hr0_1 hc0_1; have HB := Aside0.mk (Below.refl w.heap.size w); have H : ((impl_GraphOk.f a0_0 l0_1).bind fun t102 => (if t102 = true then ((impl_within.f a1 0 (wrap64 ((l0_1.length : Int) - 1))).bind fun t103 => (if t103 = true then ((impl_DropEdge.f k a0_0 l0_1 a1).bind fun bt104 => (some (!bt104.2.2))) else (some false))) else (some false))) = some r := h; clear h; replace H := Option.bind_eq_some_iff.mp H; obtain ⟨t102, A30, H⟩ := H; (try dsimp only at H); have A3 := Aside0.mk A30; clear A30; by_cases c4 : t102 = true; rotate_left
 ·replace c4 := Bool.eq_false_iff.mpr c4; subst c4; rw [if_neg (show ¬ (false = true) by decide)] at H; obtain rfl := Option.some.inj H; go_enter Try.func20, Try.ntmps20; (go_wp2_with (first | ((with_reducible refine gate_dst (N := 2) rfl ?_); (try (refine gate_guard (by rfl) ?_; dsimp only)); refine box_event ?hg (N := 2) ?hd (cs := #[.int .i64 a0_0, .slice A0_1 l0_1.length c0_1]) (t := 31) ?hr ?_; (case hd => rfl); (case hg => rfl); (case hr => exact zz11); intro gb101 hg w21 hbox hb; have n_ := zA4 (below_step zz2 hb) hbox (zz10 : w.heap.size ≤ gb101) (zz10 : w.heap.size ≤ gb101); clear HB; obtain ⟨HB, BK101, GW101, GE101⟩ := n_; clear hb hbox hg; have hcz22_0 := zC20 BK101; have hcz22_1 := zC21 BK101; have hfz22_0 := blk_frozen BK101.out 0; have hfz22_1 := blk_frozen BK101.out 1) | ((with_reducible refine gate_callee (f := 32) rfl ?_); refine goesL_ (some 8) rfl rfl Try.func32 (by kernel_rfl) rfl #[.agg #[.int .i64 a0_0, .slice A0_1 l0_1.length c0_1]] rfl zz3 ?_; (with_reducible refine (impl_GraphOk.calls a0_0 _ _ l0_1 false _ ?side1 ?side2 A3.out).mono ?_); (case side1 => exact zz5); (case side2 => exact HC0_1.out); rintro e w23 ⟨rfl, hb⟩; refine ⟨_, rfl, ?_⟩; have n_ := zA2 (blk_below (g := gb101) (o := .cells #[.int .i64 a0_0, .slice A0_1 l0_1.length c0_1] 31 (0, 0)) zz1 hb) (below_step zz0 hb); clear BK101 HB; obtain ⟨BK101, HB⟩ := n_; clear hb))); go_ret; exact ⟨zz7, zz0⟩
 subst c4; rw [if_pos rfl] at H; replace H := Option.bind_eq_some_iff.mp H; obtain ⟨t103, A50, H⟩ := H; (try dsimp only at H); have A5 := Aside0.mk A50; clear A50; by_cases c6 : t103 = true; rotate_left
 ·replace c6 := Bool.eq_false_iff.mpr c6; subst c6; rw [if_neg (show ¬ (false = true) by decide)] at H; obtain rfl := Option.some.inj H; go_enter Try.func20, Try.ntmps20; (go_wp2_with (first | ((with_reducible refine gate_dst (N := 2) rfl ?_); (try (refine gate_guard (by rfl) ?_; dsimp only)); refine box_event ?hg (N := 2) ?hd (cs := #[.int .i64 a0_0, .slice A0_1 l0_1.length c0_1]) (t := 31) ?hr ?_; (case hd => rfl); (case hg => rfl); (case hr => exact zz11); intro gb101 hg w17 hbox hb; have n_ := zA4 (below_step zz2 hb) hbox (zz10 : w.heap.size ≤ gb101) (zz10 : w.heap.size ≤ gb101); clear HB; obtain ⟨HB, BK101, GW101, GE101⟩ := n_; clear hb hbox hg; have hcz18_0 := zC20 BK101; have hcz18_1 := zC21 BK101; have hfz18_0 := blk_frozen BK101.out 0; have hfz18_1 := blk_frozen BK101.out 1) | ((with_reducible refine gate_callee (f := 32) rfl ?_); refine goesL_ (some 8) rfl rfl Try.func32 (by kernel_rfl) rfl #[.agg #[.int .i64 a0_0, .slice A0_1 l0_1.length c0_1]] rfl zz3 ?_; (with_reducible refine (impl_GraphOk.calls a0_0 _ _ l0_1 true _ ?side1 ?side2 A3.out).mono ?_); (case side1 => exact zz5); (case side2 => exact HC0_1.out); rintro e w19 ⟨rfl, hb⟩; refine ⟨_, rfl, ?_⟩; have n_ := zA2 (blk_below (g := gb101) (o := .cells #[.int .i64 a0_0, .slice A0_1 l0_1.length c0_1] 31 (0, 0)) zz1 hb) (below_step zz0 hb); clear BK101 HB; obtain ⟨BK101, HB⟩ := n_; clear hb; have hcz20_0 := zC20 BK101; have hcz20_1 := zC21 BK101; have hfz20_0 := blk_frozen BK101.out 0; have hfz20_1 := blk_frozen BK101.out 1) | (go_at_call 45; (with_reducible refine (impl_within.calls a1 0 (wrap64 ((l0_1.length : Int) - 1)) false _ A5.out).mono ?_); rintro e w' ⟨rfl, ⟨nd, rfl⟩⟩))); go_ret; exact ⟨zz7, zz0⟩
 subst c6; rw [if_pos rfl] at H; replace H := Option.bind_eq_some_iff.mp H; obtain ⟨⟨t104, t105, t108⟩, A70, H⟩ := H; dsimp only at H; have A7 := Aside0.mk A70; clear A70; obtain rfl := Option.some.inj H; go_enter Try.func20, Try.ntmps20; (go_wp2_with (first | ((with_reducible refine gate_dst (N := 2) rfl ?_); (try (refine gate_guard (by rfl) ?_; dsimp only)); refine box_event ?hg (N := 2) ?hd (cs := #[.int .i64 a0_0, .slice A0_1 l0_1.length c0_1]) (t := 31) ?hr ?_; (case hd => rfl); (case hg => rfl); (case hr => exact zz11); intro gb101 hg w8 hbox hb; have n_ := zA4 (below_step zz2 hb) hbox (zz10 : w.heap.size ≤ gb101) (zz10 : w.heap.size ≤ gb101); clear HB; obtain ⟨HB, BK101, GW101, GE101⟩ := n_; clear hb hbox hg; have hcz9_0 := zC20 BK101; have hcz9_1 := zC21 BK101; have hfz9_0 := blk_frozen BK101.out 0; have hfz9_1 := blk_frozen BK101.out 1) | ((with_reducible refine gate_callee (f := 32) rfl ?_); refine goesL_ (some 8) rfl rfl Try.func32 (by kernel_rfl) rfl #[.agg #[.int .i64 a0_0, .slice A0_1 l0_1.length c0_1]] rfl zz3 ?_; (with_reducible refine (impl_GraphOk.calls a0_0 _ _ l0_1 true _ ?side1 ?side2 A3.out).mono ?_); (case side1 => exact zz5); (case side2 => exact HC0_1.out); rintro e w10 ⟨rfl, hb⟩; refine ⟨_, rfl, ?_⟩; have n_ := zA2 (blk_below (g := gb101) (o := .cells #[.int .i64 a0_0, .slice A0_1 l0_1.length c0_1] 31 (0, 0)) zz1 hb) (below_step zz0 hb); clear BK101 HB; obtain ⟨BK101, HB⟩ := n_; clear hb; have hcz11_0 := zC20 BK101; have hcz11_1 := zC21 BK101; have hfz11_0 := blk_frozen BK101.out 0; have hfz11_1 := blk_frozen BK101.out 1) | (go_at_call 45; (with_reducible refine (impl_within.calls a1 0 (wrap64 ((l0_1.length : Int) - 1)) true _ A5.out).mono ?_); rintro e w' ⟨rfl, ⟨nd, rfl⟩⟩; (try (rw [drewN_self w10]; generalize hq_ : World.drewN w10 _ = w10; have n0_ : Aside0 (w10.heap[gb101]? = some (.cells #[.int .i64 a0_0, .slice A0_1 l0_1.length c0_1] 31 (0, 0))) := ⟨by rw [← hq_]; exact zz1⟩; have n1_ : Aside0 (Below w.heap.size w w10) := ⟨by rw [← hq_]; exact zz0⟩; clear BK101 HB hq_; have BK101 := n0_; have HB := n1_; clear n0_ n1_; have hczqBK101_0 : w10.cell? ⟨gb101, 0, none⟩ = some (.int .i64 a0_0) := (blk_cell BK101.out 0).trans rfl; have hfzqBK101_0 := blk_frozen BK101.out 0; have hczqBK101_1 : w10.cell? ⟨gb101, 1, none⟩ = some (.slice A0_1 l0_1.length c0_1) := (blk_cell BK101.out 1).trans rfl; have hfzqBK101_1 := blk_frozen BK101.out 1))) | ((with_reducible refine gate_callee (f := 46) rfl ?_); refine goesL_ (some 22) rfl rfl Try.func46 (by kernel_rfl) rfl #[.agg #[.int .i64 a0_0, .slice A0_1 l0_1.length c0_1], .int .i64 a1] rfl zz3 ?_; (with_reducible refine (impl_DropEdge.calls k a0_0 _ _ l0_1 a1 t104 t105 t108 _ ?side1 ?side2 A7.out).mono ?_); (case side1 => exact zz5); (case side2 => exact HC0_1.out); rintro e w12 ⟨v106, rfl, ho0, hb⟩; refine ⟨_, rfl, ?_⟩; have n_ := zA3 (Kd.R_lower ho0 (below_size zz0)) (blk_below (g := gb101) (o := .cells #[.int .i64 a0_0, .slice A0_1 l0_1.length c0_1] 31 (0, 0)) zz1 hb) (below_step zz0 hb); clear BK101 HB; obtain ⟨HO107, BK101, HB⟩ := n_; clear ho0 hb) | ((with_reducible refine gate_dst (N := 5) rfl ?_); (try (refine gate_guard (by rfl) ?_; dsimp only)); refine box_event ?hg (N := 5) ?hd (cs := #[.int .i64 0, .slice none 0 0]) (t := 31) ?hr ?_; (case hd => rfl); (case hg => rfl); (case hr => exact zz11); intro gb109 hg w13 hbox hb; have n_ := zA8 (Kd.R_below (by (with_reducible repeat (first | apply Kd.R_alloc | apply Kd.R_drewN | apply Kd.R_drew)); exact HO107.out) hb) (blk_below (g := gb101) (o := .cells #[.int .i64 a0_0, .slice A0_1 l0_1.length c0_1] 31 (0, 0)) zz1 hb) (below_step zz0 hb) hbox (zz14 : w.heap.size ≤ gb109) (zz14 : w.heap.size ≤ gb109) (zz23 : gb101 ≠ gb109) (zz24 : gb109 ≠ gb101); clear HO107 BK101 HB; obtain ⟨HO107, BK101, HB, BK109, GW109, GE109, NB101_109, NB109_101⟩ := n_; clear hb hbox hg; have hnb14 := NB109_101.out; have hnc14 := NB101_109.out; have hcz15_0 := zC20 BK109; have hcz15_1 := zC21 BK109; have hfz15_0 := blk_frozen BK109.out 0; have hfz15_1 := blk_frozen BK109.out 1; obtain ⟨Ao16, co16, eo16⟩ := Kd.R_slice HO107.out; subst eo16))); go_ret; exact ⟨zz7, by repeat (first | (with_reducible first | exact HB.out | apply below_alloc | apply pw_below_drewN | apply below_drew1 | refine below_set ?_ GE101.out | refine below_set ?_ GE109.out) | exact HB.out)⟩
def impl_BridgesOf.l0 : Nat → List Int → Int → Int → Int → List (S67) → Option (List Int)
 | 0, _, _, _, _, _ => none
 | k + 1, x3, x10, x11, x102000, x102001 => if x11 < x10 then ((impl_IsBridge.f k x102000 x102001 x11).bind fun t103 => (if t103 = true then (if x3.length < 17592186044416 then (impl_BridgesOf.l0 k (x3 ++ [x11]) x10 (wrap64 (x11 + 1)) x102000 x102001) else (none)) else (impl_BridgesOf.l0 k x3 x10 (wrap64 (x11 + 1)) x102000 x102001))) else (some x3)
def impl_BridgesOf.f (k : Nat) (a0_0 : Int) (l0_1 : List (S67)) : Option (List Int) := (impl_GraphOk.f a0_0 l0_1).bind fun t102 => (if t102 = true then (impl_BridgesOf.l0 k ([] : List Int) (l0_1.length : Int) 0 a0_0 l0_1) else (some ([] : List Int)))
theorem impl_BridgesOf.mono_l : ∀ k, (∀ y0 y1 y2 y3 y4, LeO (impl_BridgesOf.l0 k y0 y1 y2 y3 y4) (impl_BridgesOf.l0 (k + 1) y0 y1 y2 y3 y4))
 | 0 => fun _ _ _ _ _ r h => by simp [impl_BridgesOf.l0] at h
 | k + 1 => by
  have ih0 := impl_BridgesOf.mono_l k
  ·intro y0 y1 y2 y3 y4
   unfold impl_BridgesOf.l0
   exact zm11
theorem impl_BridgesOf.mono : ∀ a0 a1 k, LeO (impl_BridgesOf.f k a0 a1) (impl_BridgesOf.f (k + 1) a0 a1) := by
 intro a0 a1 k; have ih0 := impl_BridgesOf.mono_l k; unfold impl_BridgesOf.f; exact zm11
set_option maxHeartbeats 8000000 in
set_option maxRecDepth 100000 in
theorem impl_BridgesOf.calls (k : Nat) (a0_0 : Int) (A0_1 : Option Addr) (c0_1 : Nat) (l0_1 : List (S67)) (r : List Int) (w : World) (hr0_1 : Kd.C k67 w A0_1 l0_1.length l0_1) (hc0_1 : l0_1.length ≤ c0_1) (h : impl_BridgesOf.f k a0_0 l0_1 = some r) :
  Calls Try.prog 18 #[.agg #[.int .i64 a0_0, .slice A0_1 l0_1.length c0_1]] w fun e w' => ∃ v0_ : Value, e = .returned (v0_) ∧ Kd.R (Kd.int .i64) 3 w' w.heap.size (fun _ => True) v0_ r ∧ Below w.heap.size w w' := by
 have hu31 := Try.underlying31; have HR0_1 := Aside0.mk hr0_1; have HC0_1 := Aside0.mk hc0_1; clear hr0_1 hc0_1; have HB := Aside0.mk (Below.refl w.heap.size w); have H : ((impl_GraphOk.f a0_0 l0_1).bind fun t102 => (if t102 = true then (impl_BridgesOf.l0 k ([] : List Int) (l0_1.length : Int) 0 a0_0 l0_1) else (some ([] : List Int)))) = some r := h; clear h; replace H := Option.bind_eq_some_iff.mp H; obtain ⟨t102, A20, H⟩ := H; (try dsimp only at H); have A2 := Aside0.mk A20; clear A20; by_cases c3 : t102 = true; rotate_left
 ·replace c3 := Bool.eq_false_iff.mpr c3; subst c3; rw [if_neg (show ¬ (false = true) by decide)] at H; obtain rfl := Option.some.inj H; go_enter Try.func18, Try.ntmps18; (go_wp2_with (first | ((with_reducible refine gate_dst (N := 1) rfl ?_); refine box_event ?hg (N := 1) ?hd (cs := #[.int .i64 a0_0, .slice A0_1 l0_1.length c0_1]) (t := 31) ?hr ?_; (case hd => rfl); (case hg => rfl); (case hr => exact zz11); intro gb101 hg w17 hbox hb; have n_ := zA4 (below_step zz2 hb) hbox (zz10 : w.heap.size ≤ gb101) (zz10 : w.heap.size ≤ gb101); clear HB; obtain ⟨HB, BK101, GW101, GE101⟩ := n_; clear hb hbox hg; have hcz18_0 := zC20 BK101; have hcz18_1 := zC21 BK101; have hfz18_0 := blk_frozen BK101.out 0; have hfz18_1 := blk_frozen BK101.out 1) | ((with_reducible refine gate_callee (f := 32) rfl ?_); refine goesL_ (some 6) rfl rfl Try.func32 (by kernel_rfl) rfl #[.agg #[.int .i64 a0_0, .slice A0_1 l0_1.length c0_1]] rfl zz3 ?_; (with_reducible refine (impl_GraphOk.calls a0_0 _ _ l0_1 false _ ?side1 ?side2 A2.out).mono ?_); (case side1 => exact zz5); (case side2 => exact HC0_1.out); rintro e w19 ⟨rfl, hb⟩; refine ⟨_, rfl, ?_⟩; have n_ := zA2 (blk_below (g := gb101) (o := .cells #[.int .i64 a0_0, .slice A0_1 l0_1.length c0_1] 31 (0, 0)) zz1 hb) (below_step zz0 hb); clear BK101 HB; obtain ⟨BK101, HB⟩ := n_; clear hb))); go_ret; exact ⟨_, zz7, zz26, zz0⟩
 subst c3; rw [if_pos rfl] at H; have H' := Aside0.mk H; clear H; go_enter Try.func18, Try.ntmps18; (go_wp2_with (first | ((with_reducible refine gate_dst (N := 1) rfl ?_); refine box_event ?hg (N := 1) ?hd (cs := #[.int .i64 a0_0, .slice A0_1 l0_1.length c0_1]) (t := 31) ?hr ?_; (case hd => rfl); (case hg => rfl); (case hr => exact zz11); intro gb101 hg w4 hbox hb; have n_ := zA4 (below_step zz2 hb) hbox (zz10 : w.heap.size ≤ gb101) (zz10 : w.heap.size ≤ gb101); clear HB; obtain ⟨HB, BK101, GW101, GE101⟩ := n_; clear hb hbox hg; have hcz5_0 := zC20 BK101; have hcz5_1 := zC21 BK101; have hfz5_0 := blk_frozen BK101.out 0; have hfz5_1 := blk_frozen BK101.out 1) | ((with_reducible refine gate_callee (f := 32) rfl ?_); refine goesL_ (some 6) rfl rfl Try.func32 (by kernel_rfl) rfl #[.agg #[.int .i64 a0_0, .slice A0_1 l0_1.length c0_1]] rfl zz3 ?_; (with_reducible refine (impl_GraphOk.calls a0_0 _ _ l0_1 true _ ?side1 ?side2 A2.out).mono ?_); (case side1 => exact zz5); (case side2 => exact HC0_1.out); rintro e w6 ⟨rfl, hb⟩; refine ⟨_, rfl, ?_⟩; have n_ := zA2 (blk_below (g := gb101) (o := .cells #[.int .i64 a0_0, .slice A0_1 l0_1.length c0_1] 31 (0, 0)) zz1 hb) (below_step zz0 hb); clear BK101 HB; obtain ⟨BK101, HB⟩ := n_; clear hb; have hcz7_0 := zC20 BK101; have hcz7_1 := zC21 BK101; have hfz7_0 := blk_frozen BK101.out 0; have hfz7_1 := blk_frozen BK101.out 1))); (go_loopg [3, 11] k (fun kq v3 v11 w' => ∃ (x3_1 : List Int) (x11_1 : Int), v11 = .int .i64 x11_1 ∧ Aside0 (impl_BridgesOf.l0 kq x3_1 (l0_1.length : Int) x11_1 a0_0 l0_1 = some r) ∧ Aside0 (kq ≤ k) ∧ Aside0 (Kd.R (Kd.int .i64) 3 w' w.heap.size (fun _ => True) v3 x3_1) ∧ Aside0 (w'.heap[gb101]? = some (.cells #[.int .i64 a0_0, (.slice A0_1 l0_1.length c0_1)] 31 (0, 0))) ∧ Aside0 (Below w.heap.size w w'))); case atStart => exact ⟨(([] : List Int)), (0), zz6, H', ⟨Nat.le_refl _⟩, ⟨zz26⟩, ⟨zz1⟩, ⟨zz0⟩⟩
 case round =>
  clear H'; (try clear c1); (try clear p2); (try clear c3); (try clear hcz5_0); (try clear hcz5_1); (try clear hcz7_0); (try clear hcz7_1); (try clear hfz5_0); (try clear hfz5_1); (try clear hfz7_0); (try clear hfz7_1); obtain ⟨x3_1, x11_1, rfl, HA, HK1, HO_3, BK101, HB⟩ := hrel
  cases gk with
  | zero => exact absurd HA.out (by simp [impl_BridgesOf.l0])
  | succ k1 =>
   have H := HA.out; clear HA; simp only [impl_BridgesOf.l0] at H; by_cases c8 : x11_1 < (l0_1.length : Int); rotate_left
   ·rw [if_neg c8] at H; have c8b0 := decide_eq_false c8; clear c8; obtain rfl := Option.some.inj H; go_wp2; go_ret; exact ⟨_, zz7, zz16, zz0⟩
   rw [if_pos c8] at H; have c8b0 := decide_eq_true c8; clear c8; replace H := Option.bind_eq_some_iff.mp H; obtain ⟨t103, A90, H⟩ := H; (try dsimp only at H); have A9 := Aside0.mk A90; clear A90; by_cases c10 : t103 = true; rotate_left
   ·replace c10 := Bool.eq_false_iff.mpr c10; subst c10; rw [if_neg (show ¬ (false = true) by decide)] at H; have H' := Aside0.mk H; clear H; have hcz15_0 := zC20 BK101; have hcz15_1 := zC21 BK101; have hfz15_0 := blk_frozen BK101.out 0; have hfz15_1 := blk_frozen BK101.out 1; (go_wp2_with (first | ((with_reducible refine gate_callee (f := 20) rfl ?_); refine goesL_ (some 16) rfl rfl Try.func20 (by kernel_rfl) rfl #[.agg #[.int .i64 a0_0, .slice A0_1 l0_1.length c0_1], .int .i64 x11_1] rfl zz3 ?_; (with_reducible refine (impl_IsBridge.calls k1 a0_0 _ _ l0_1 x11_1 false _ ?side1 ?side2 A9.out).mono ?_); (case side1 => exact zz5); (case side2 => exact HC0_1.out); rintro e w16 ⟨rfl, hb⟩; refine ⟨_, rfl, ?_⟩; have n_ := zA3 (Kd.R_below zz16 hb) (blk_below (g := gb101) (o := .cells #[.int .i64 a0_0, .slice A0_1 l0_1.length c0_1] 31 (0, 0)) zz1 hb) (below_step zz0 hb); clear HO_3 BK101 HB; obtain ⟨HO_3, BK101, HB⟩ := n_; clear hb))); go_roundg k1; (case measure => have := HK1.out; omega); case rel => exact ⟨(x3_1), (wrap64 (x11_1 + 1)), zz6, H', ⟨zz38⟩, ⟨zz16⟩, ⟨zz1⟩, ⟨zz0⟩⟩
   subst c10; rw [if_pos rfl] at H; by_cases c11 : x3_1.length < 17592186044416; rotate_left
   ·rw [if_neg c11] at H; exact absurd H (by simp)
   rw [if_pos c11] at H; have LMc11 := Aside0.mk c11; clear c11; obtain ⟨y104, hy_⟩ : ∃ y_ : List Int, y_ = (x3_1 ++ [x11_1]) := ⟨_, rfl⟩; (replace H : (impl_BridgesOf.l0 k1 y104 (l0_1.length : Int) (wrap64 (x11_1 + 1)) a0_0 l0_1) = some r := zzY); have Ny104 := Aside0.mk hy_; clear hy_; have H' := Aside0.mk H; clear H; have hcz12_0 := zC20 BK101; have hcz12_1 := zC21 BK101; have hfz12_0 := blk_frozen BK101.out 0; have hfz12_1 := blk_frozen BK101.out 1; (go_wp2_with (first | ((with_reducible refine gate_callee (f := 20) rfl ?_); refine goesL_ (some 16) rfl rfl Try.func20 (by kernel_rfl) rfl #[.agg #[.int .i64 a0_0, .slice A0_1 l0_1.length c0_1], .int .i64 x11_1] rfl zz3 ?_; (with_reducible refine (impl_IsBridge.calls k1 a0_0 _ _ l0_1 x11_1 true _ ?side1 ?side2 A9.out).mono ?_); (case side1 => exact zz5); (case side2 => exact HC0_1.out); rintro e w13 ⟨rfl, hb⟩; refine ⟨_, rfl, ?_⟩; have n_ := zA3 (Kd.R_below zz16 hb) (blk_below (g := gb101) (o := .cells #[.int .i64 a0_0, .slice A0_1 l0_1.length c0_1] 31 (0, 0)) zz1 hb) (below_step zz0 hb); clear HO_3 BK101 HB; obtain ⟨HO_3, BK101, HB⟩ := n_; clear hb) | ((with_reducible refine gate_builtin (b := .append) (xs := #[.tmp 17, .tmp 19]) rfl ?_); at_builtin; refine Kd.R_append (Kd.int .i64) (w0 := w) w.heap.size rfl (.tmp 17) (.tmp 19) 39 3 (.int .i64 0) 8 rfl Try.underlying39 info3 rfl (by decide) (by omega) u3 x3_1 x11_1 [.int .i64 x11_1] (fun _ => True) (fun _ => False) rfl rfl ?aP (fun _ hk => hk.elim) ?aF ?aO ?aB ?aS ?aL ?_; (case aP => exact rfl); (case aB => exact zz0); (case aF => exact (fun _ _ => trivial)); (case aO => exact zz16); (case aS => exact (below_size zz0)); (case aL => have := LMc11.out; omega); intro v105 w14 ho hb hg hat; rw [← Ny104.out] at ho; have n_ := zA3 (blk_grown (g := gb101) (o := .cells #[.int .i64 a0_0, .slice A0_1 l0_1.length c0_1] 31 (0, 0)) zz1 hg (Kd.R_ne HO_3.out BK101.out (by decide))) hb ho; clear BK101 HB HO_3; obtain ⟨BK101, HB, HO106⟩ := n_; clear ho hb hg hat))); go_roundg k1; (case measure => have := HK1.out; omega); case rel => exact ⟨(y104), (wrap64 (x11_1 + 1)), zz6, H', ⟨zz38⟩, ⟨by (with_reducible repeat (first | apply Kd.R_alloc | apply Kd.R_drewN | apply Kd.R_drew)); exact HO106.out⟩, ⟨zz1⟩, ⟨zz0⟩⟩
end Go.Proofs.Ytdfibdjjoplmmaa.P
end

section
namespace Go.Proofs.Ytdfibdjjoplmmaa.Cf
set_option linter.unusedVariables false
set_option linter.unusedSimpArgs false
open Go.RowKit Go.Proofs.YtdfibdjjoplmmaaW.PrintWords Go.Proofs.Ytdfibdjjoplmmaa.P
theorem extS_mem {s t : List Int} {n : Nat} : t ∈ extS s n ↔ ∃ j : Nat, fstS s ≤ j ∧ j < n ∧ t = s ++ [(j : Int)] := by
  unfold extS
  rw [List.mem_map]
  constructor
  · rintro ⟨d, hd, rfl⟩
    rw [List.mem_range] at hd
    exact ⟨fstS s + d, by omega, by omega, rfl⟩
  · rintro ⟨j, h1, h2, rfl⟩
    exact ⟨j - fstS s, by rw [List.mem_range]; omega, by rw [show fstS s + (j - fstS s) = j by omega]⟩
/-- The sets are the lists that increase. -/
theorem setsN_mem {n : Nat} : ∀ {k : Nat} {s : List Int}, s ∈ setsN n k ↔ s.length = k ∧ (∀ x ∈ s, 0 ≤ x ∧ x < (n : Int)) ∧ s.Pairwise (· < ·)
  | 0, s => by
    rw [setsN, List.mem_singleton]
    constructor
    · rintro rfl
      exact ⟨rfl, fun x hx => absurd hx List.not_mem_nil, List.Pairwise.nil⟩
    · rintro ⟨h, _⟩
      exact List.length_eq_zero_iff.1 h
  | k + 1, s => by
    rw [setsN, List.mem_flatMap]
    constructor
    · rintro ⟨t, ht, hs⟩
      obtain ⟨h1, h2, h3⟩ := setsN_mem.1 ht
      obtain ⟨j, hj1, hj2, rfl⟩ := extS_mem.1 hs
      refine ⟨by rw [List.length_append, h1]; rfl, ?_, ?_⟩
      · intro x hx
        rcases List.mem_append.1 hx with hx | hx
        · exact h2 x hx
        · rw [List.mem_singleton.1 hx]
          omega
      · rw [List.pairwise_append]
        refine ⟨h3, List.pairwise_singleton _ _, ?_⟩
        intro a ha b hb
        rw [List.mem_singleton.1 hb]
        have := fst_gt h3 (fun x hx => (h2 x hx).1) ha
        omega
    · rintro ⟨h1, h2, h3⟩
      have hd := (List.dropLast_concat_getLast (l := s) (by intro e; rw [e] at h1; cases h1)).symm
      generalize s.dropLast = t at hd
      generalize s.getLast _ = y at hd
      subst hd
      rw [List.length_append] at h1
      rw [List.pairwise_append] at h3
      have hy := h2 y (List.mem_append.2 (Or.inr List.mem_cons_self))
      refine ⟨t, setsN_mem.2 ⟨by simpa using h1, fun x hx => h2 x (List.mem_append.2 (Or.inl hx)), h3.1⟩, extS_mem.2 ⟨y.toNat, ?_, by omega, by rw [Int.toNat_of_nonneg hy.1]⟩⟩
      rcases fst_or t (fun x hx => (h2 x (List.mem_append.2 (Or.inl hx))).1) with h | ⟨x, hx, h⟩
      · omega
      · have := h3.2.2 x hx y List.mem_cons_self
        omega
theorem up_pw {l : List Int} (h : Up l l.length) : l.Pairwise (· < ·) := by
  have key : ∀ (d i : Nat) (hi : i + d + 1 < l.length), l[i]'(by omega) < l[i + d + 1] := by
    intro d
    induction d with
    | zero => intro i hi; exact h i hi (by omega)
    | succ d ih =>
      intro i hi
      have h1 := ih i (by omega)
      have h2 := h (i + d + 1) hi (by omega)
      have e : l[i + (d + 1) + 1] = l[i + d + 1 + 1] := rfl
      omega
  rw [List.pairwise_iff_getElem]
  intro i j hi hj hij
  have := key (j - i - 1) i (by omega)
  have e : i + (j - i - 1) + 1 = j := by omega
  simpa only [e] using this
noncomputable def treeL (n : Int) (es : List E) : List (List Int) := (setsN es.length (n.toNat - 1)).filter (treeB n es)
theorem treeL_mem {n : Int} {es : List E} {l : List Int} : l ∈ treeL n es ↔ TreeOk n es l := by
  unfold treeL
  rw [List.mem_filter, treeB_iff]
  constructor
  · exact fun h => h.2
  · intro h
    refine ⟨setsN_mem.2 ⟨?_, ?_, up_pw h.2.2.2.1⟩, h⟩
    · have := h.2.1
      omega
    · intro x hx
      obtain ⟨j, hj, rfl⟩ := List.getElem_of_mem hx
      exact h.2.2.1 j hj hj
theorem specAll_l0 (m : Nat) (hm : m ≤ 100) : ∀ (d i : Nat), i + d = m → Ep (fun k => spec_l03All.l0 k (m : Int) (upTo i) (i : Int)) (· = upTo m) := by
  intro d
  induction d with
  | zero =>
    intro i hi
    refine Ep.up ?_
    simp only [spec_l03All.l0]
    refine Ep.neg (by omega) (Ep.now ?_)
    rw [show i = m by omega]
  | succ d ih =>
    intro i hi
    have h := ih (i + 1) (by omega)
    have e : upTo (i + 1) = upTo i ++ [(i : Int)] := by unfold upTo; rw [List.range_succ, List.map_append]; rfl
    rw [e] at h
    have hl : (upTo i).length = i := by unfold upTo; simp
    refine Ep.up ?_
    simp only [spec_l03All.l0]
    refine Ep.pos (by omega) (Ep.pos (by omega) ?_)
    rw [wrap_succ (by omega)]
    exact h
theorem specAll (m : Nat) (hm : m ≤ 100) : Ep (fun k => spec_l03All.f k (m : Int)) (· = upTo m) := by
  simp only [spec_l03All.f]
  exact specAll_l0 m hm m 0 (by omega)
theorem specDeterminant {m : Nat} (hm : m ≤ 5) {M : List (List Int)} (hM : SqOk m M) : Ep (fun k => spec_Determinant.f k M) (· = detL M (upTo m) (upTo m)) := by
  have hM1 := hM.1
  have hu : (upTo m).length = m := by unfold upTo; simp
  simp only [spec_Determinant.f]
  refine Ep.bind (specMatrixOk hm hM) ?_
  rintro _ rfl
  rw [hM1]
  refine Ep.pos rfl (Ep.bind (specAll m (by omega)) ?_)
  rintro _ rfl
  refine Ep.bind (specAll m (by omega)) ?_
  rintro _ rfl
  refine Ep.bind (specDet hm hM (upTo m) (by omega) (fun r hr => upTo_mem.1 hr) (upTo m) (by omega) (fun r hr => upTo_mem.1 hr)) ?_
  rintro _ rfl
  exact Ep.now rfl
theorem specCountTrees {n : Nat} {es : List E} (hg : GOk (n : Int) es) : Ep (fun k => spec_CountTrees.f k (n : Int) es) (· = dlap es (vsL n 0)) := by
  have hG := hg.1
  unfold EsOk at hG
  simp only [spec_CountTrees.f]
  refine Ep.bind (specGraph _ _) ?_
  rintro _ rfl
  refine Ep.pos (gOk_iff.2 hg) (Ep.bind (specRL hg (q := 0) (by omega)) ?_)
  rintro _ rfl
  refine Ep.bind (specDeterminant (by omega) (redM_sq (q := 0) (by omega) hG.2.2.1)) ?_
  rintro _ rfl
  rw [redM_det (by omega)]
  exact Ep.now rfl
open Classical in
noncomputable def trO (n : Int) (es : List E) : List (List Int) × Bool := if gOk n es = true ∧ dlap es (vsL n.toNat 0) ≤ 400 then (treeL n es, true) else ([], false)
/-- An answer for each of a list's elements, with one number of rounds. -/
theorem Ep.all {α β : Type} {f : Nat → α → Option β} {g : α → β} : ∀ (L : List α), (∀ x ∈ L, Ep (fun k => f k x) (· = g x)) → ∃ K, ∀ k, K ≤ k → ∀ x ∈ L, f k x = some (g x)
  | [], _ => ⟨0, fun k _ x hx => absurd hx List.not_mem_nil⟩
  | a :: L, h => by
    obtain ⟨K, hK⟩ := Ep.all L fun x hx => h x (List.mem_cons_of_mem _ hx)
    obtain ⟨_, rfl, J, hJ⟩ := h a List.mem_cons_self
    refine ⟨max K J, fun k hk x hx => ?_⟩
    rcases List.mem_cons.1 hx with rfl | hx
    · exact hJ k (by omega)
    · exact hK k (by omega) x hx
theorem implTrees (n : Int) (es : List E) : Ep (fun k => impl_TreesOf.f k n es) (· = trO n es) := by
  simp only [impl_TreesOf.f]
  refine Ep.bind0 (implGraph _ _) ?_
  unfold trO
  by_cases c : gOk n es = true
  · have hg := gOk_iff.1 c
    have hG := hg.1
    unfold EsOk at hG
    obtain ⟨m, rfl⟩ := Int.eq_ofNat_of_zero_le (show 0 ≤ n by omega)
    simp only [Int.toNat_natCast]
    refine Ep.pos c (Ep.bind (implCountTrees hg) ?_)
    rintro _ rfl
    by_cases h4 : dlap es (vsL m 0) ≤ 400
    · refine Ep.pos h4 ?_
      rw [if_pos ⟨c, h4⟩]
      obtain ⟨K, hK⟩ := Ep.all (f := fun k s => impl_IsTree.f k (m : Int) es s) (g := fun s => treeB (m : Int) es s) (setsN es.length (m - 1)) fun s hs => implTree (m : Int) es s (by have := (setsN_ok hs).1; omega)
      refine ⟨_, rfl, K, fun k hk => ?_⟩
      have h := hK k hk
      refine (if_pos (show impl_TreesOf.ok k (m : Int) es from ⟨by omega, hG.2.2.1, fun s hs => by rw [h s hs]; rfl⟩)).trans ?_
      congr 2
      show _ = treeL (m : Int) es
      unfold treeL
      rw [Int.toNat_natCast]
      refine List.filter_congr fun s hs => ?_
      rw [h s hs]
      cases treeB (m : Int) es s <;> rfl
    · refine Ep.neg h4 (Ep.now ?_)
      rw [if_neg (fun h => h4 h.2)]
  · refine Ep.neg c (Ep.now ?_)
    rw [if_neg (fun h => c h.1)]
theorem specTrees_l0 {n : Nat} {es : List E} (hg : GOk (n : Int) es) (L : List (List Int)) (hL : L.length ≤ 3000000) (hm : ∀ s ∈ L, s ∈ setsN es.length (n - 1)) : ∀ (d i : Nat), i + d = L.length → Ep (fun k => spec_TreesOf.l0 k ((L.take i).filter (treeB (n : Int) es)) L (L.length : Int) (i : Int) (n : Int) es) (· = (L.filter (treeB (n : Int) es), true)) := by
  have hG := hg.1
  unfold EsOk at hG
  intro d
  induction d with
  | zero =>
    intro i hi
    refine Ep.up ?_
    simp only [spec_TreesOf.l0]
    refine Ep.neg (by omega) (Ep.now ?_)
    rw [List.take_of_length_le (by omega)]
  | succ d ih =>
    intro i hi
    have h := ih (i + 1) (by omega)
    have hlt : i < L.length := by omega
    have e : rd_L3 L (i : Int) = L[i] := by
      unfold rd_L3
      rw [Int.toNat_natCast, List.getD_eq_getElem?_getD, List.getElem?_eq_getElem hlt]
      rfl
    have hmem := setsN_mem.1 (hm _ (List.getElem_mem hlt))
    have hr : InR es L[i] L[i].length := fun j hj _ => hmem.2.1 _ (List.getElem_mem hj)
    have hu : Up L[i] L[i].length := fun j hj _ => List.pairwise_iff_getElem.1 hmem.2.2 j (j + 1) (by omega) hj (by omega)
    have hlen : (L[i].length : Int) = (n : Int) - 1 := by have := hmem.1; omega
    have ht : ((L.take i).filter (treeB (n : Int) es)).length ≤ 3000000 := Nat.le_trans (List.length_filter_le _ _) (by rw [List.length_take]; omega)
    rw [List.take_succ_eq_append_getElem hlt, List.filter_append] at h
    refine Ep.up ?_
    simp only [spec_TreesOf.l0]
    refine Ep.pos (by omega) (Ep.pos (by omega) (Ep.pos (by omega) ?_))
    rw [e, wrap_succ (by omega)]
    refine Ep.bind (specJoins n (by omega) es L[i] (by omega) hG.2.2.2 hr) ?_
    rintro _ rfl
    rw [treeB_joined hg hlen hr hu]
    by_cases c : treeB (n : Int) es L[i] = true
    · rw [List.filter_cons_of_pos c] at h
      exact Ep.pos c (Ep.pos (by omega) h)
    · rw [List.filter_cons_of_neg c, List.filter_nil, List.append_nil] at h
      exact Ep.neg c h
theorem specTrees (n : Int) (es : List E) : Ep (fun k => spec_TreesOf.f k n es) (· = trO n es) := by
  simp only [spec_TreesOf.f]
  refine Ep.bind (specGraph _ _) ?_
  rintro _ rfl
  unfold trO
  by_cases c : gOk n es = true
  · have hg := gOk_iff.1 c
    have hG := hg.1
    unfold EsOk at hG
    obtain ⟨m, rfl⟩ := Int.eq_ofNat_of_zero_le (show 0 ≤ n by omega)
    rw [Int.toNat_natCast]
    refine Ep.pos c (Ep.bind (specCountTrees hg) ?_)
    rintro _ rfl
    refine Ep.up ?_
    simp only [spec_TreesOf.j0]
    by_cases h4 : dlap es (vsL m 0) ≤ 400
    · rw [if_pos ⟨c, h4⟩]
      refine Ep.neg (by simp; omega) ?_
      refine Ep.bind0 (a := setsN es.length (m - 1)) ?_ ?_
      · rw [wrap_id (by omega) (by omega), show (m : Int) - 1 = ((m - 1 : Nat) : Int) by omega]
        unfold spec_l03Sets.f
        rw [if_pos (by omega), Int.toNat_natCast, Int.toNat_natCast]
      · have hS := setsN_len6 (n := es.length) hG.2.2.1 (k := m - 1) (by omega)
        have h := specTrees_l0 hg (setsN es.length (m - 1)) (by omega) (fun s hs => hs) (setsN es.length (m - 1)).length 0 (by omega)
        unfold treeL
        rw [Int.toNat_natCast]
        exact h
    · rw [if_neg (fun h => h4 h.2)]
      exact Ep.pos (by simp; omega) (Ep.now rfl)
  · rw [if_neg (fun h => c h.1)]
    refine Ep.neg c (Ep.up ?_)
    simp only [spec_TreesOf.j0]
    exact Ep.pos (by first | rfl | trivial | simp) (Ep.now rfl)
theorem treeL_small {n : Int} {es : List E} (hes : es.length ≤ 12) (hn : n ≤ 6) : (treeL n es).length ≤ 3000000 ∧ ∀ s ∈ treeL n es, s.length ≤ 6 := by
  unfold treeL
  refine ⟨Nat.le_trans (List.length_filter_le _ _) (Nat.le_trans (setsN_len6 hes (by omega)) (by omega)), fun s hs => ?_⟩
  have := (setsN_ok (List.mem_filter.1 hs).1).1
  omega
end Go.Proofs.Ytdfibdjjoplmmaa.Cf
end

section
namespace Go.Proofs.Ytdfibdjjoplmmaa.Cf
set_option linter.unusedVariables false
set_option linter.unusedSimpArgs false
open Go.RowKit Go.Proofs.YtdfibdjjoplmmaaW.PrintWords
/-- Each vertex of vs is joined to a root. -/
def Span (A : List E) (vs : List Int) : Prop := ∀ v ∈ vs, ∃ u, u ∉ vs ∧ Conn A u v
theorem Span.sub {A B : List E} {vs : List Int} (h : Span A vs) (hs : ∀ e ∈ A, e ∈ B) : Span B vs := fun v hv => by
  obtain ⟨u, hu, hc⟩ := h v hv
  exact ⟨u, hu, hc.sub hs⟩
/-- An edge between roots is not wanted. -/
theorem span_loop {e : E} {A : List E} {vs : List Int} (h0 : e.f0 ∉ vs) (h1 : e.f1 ∉ vs) : Span (e :: A) vs ↔ Span A vs := by
  refine ⟨fun h v hv => ?_, fun h => h.sub fun x hx => List.mem_cons_of_mem _ hx⟩
  obtain ⟨u, hu, hc⟩ := h v hv
  have key : ∀ x, Conn (e :: A) u x → x ∈ vs → ∃ u', u' ∉ vs ∧ Conn A u' x := by
    intro x hx
    induction hx with
    | refl => exact fun h => absurd h hu
    | tail hy hadj ih =>
      rename_i y x
      intro hxv
      obtain ⟨f, hf, hfx⟩ := hadj
      have hfe : f ∈ A := by
        rcases List.mem_cons.1 hf with rfl | hf
        · rcases hfx with h | h
          · exact absurd (h.2 ▸ hxv) h1
          · exact absurd (h.1 ▸ hxv) h0
        · exact hf
      by_cases hyv : y ∈ vs
      · obtain ⟨u', hu', hc'⟩ := ih hyv
        exact ⟨u', hu', hc'.tail ⟨f, hfe, hfx⟩⟩
      · exact ⟨y, hyv, Conn.one ⟨f, hfe, hfx⟩⟩
  exact key v hc hv
theorem span_cut {e : E} {A : List E} {vs : List Int} {u v : Int} (huv : (e.f0 = u ∧ e.f1 = v) ∨ (e.f0 = v ∧ e.f1 = u)) (hn : vs.Nodup) (hv : v ∈ vs) (hu : u ∉ vs) : Span (e :: A) vs ↔ Span A (vs.erase v) := by
  have hve : v ∉ vs.erase v := fun h => (hn.mem_erase_iff.1 h).1 rfl
  have hue : u ∉ vs.erase v := fun h => hu (List.mem_of_mem_erase h)
  constructor
  · intro h
    have h2 : Span (e :: A) (vs.erase v) := fun w hw => by
      obtain ⟨x, hx, hc⟩ := h w (List.mem_of_mem_erase hw)
      exact ⟨x, fun q => hx (List.mem_of_mem_erase q), hc⟩
    exact (span_loop (by rcases huv with q | q <;> rw [q.1] <;> assumption) (by rcases huv with q | q <;> rw [q.2] <;> assumption)).1 h2
  · intro h w hw
    have hadj : Conn (e :: A) u v := Conn.one ⟨e, List.mem_cons_self, huv⟩
    by_cases c : w = v
    · exact ⟨u, hu, c ▸ hadj⟩
    · obtain ⟨x, hx, hc⟩ := h w (hn.mem_erase_iff.2 ⟨c, hw⟩)
      have hc' : Conn (e :: A) x w := hc.sub fun y hy => List.mem_cons_of_mem _ hy
      by_cases d : x = v
      · exact ⟨u, hu, hadj.trans (d ▸ hc')⟩
      · exact ⟨x, fun q => hx (hn.mem_erase_iff.2 ⟨d, q⟩), hc'⟩
theorem span_far {A : List E} {vs : List Int} (hv : vs ≠ []) (hf : ∀ e ∈ A, e.f0 ∈ vs ↔ e.f1 ∈ vs) : ¬ Span A vs := fun h => by
  cases vs with
  | nil => exact hv rfl
  | cons v vs =>
    obtain ⟨u, hu, hc⟩ := h v List.mem_cons_self
    have : (fun x => x ∉ v :: vs) v := hc.closed (S := fun x => x ∉ v :: vs) (fun a b ha hab hb => by
      obtain ⟨e, he, hx⟩ := hab
      have := hf e he
      rcases hx with ⟨x0, x1⟩ | ⟨x0, x1⟩
      · rw [x0, x1] at this; exact ha (this.2 hb)
      · rw [x0, x1] at this; exact ha (this.1 hb)) hu
    exact this List.mem_cons_self
theorem span_len : ∀ (m : Nat) {A : List E} {vs : List Int}, vs.length = m → vs.Nodup → Span A vs → m ≤ A.length := by
  intro m
  induction m with
  | zero => intro A vs _ _ _; omega
  | succ m ih =>
    intro A vs hm hn h
    have hx : ∃ e ∈ A, ∃ u v : Int, ((e.f0 = u ∧ e.f1 = v) ∨ (e.f0 = v ∧ e.f1 = u)) ∧ v ∈ vs ∧ u ∉ vs := by
      apply Classical.byContradiction
      intro hno
      refine span_far (vs := vs) (fun e => by rw [e] at hm; simp at hm) (fun e he => ⟨fun h0 => Classical.byContradiction fun h1 => hno ⟨e, he, e.f1, e.f0, .inr ⟨rfl, rfl⟩, h0, h1⟩, fun h1 => Classical.byContradiction fun h0 => hno ⟨e, he, e.f0, e.f1, .inl ⟨rfl, rfl⟩, h1, h0⟩⟩) h
    obtain ⟨e, he, u, v, huv, hv, hu⟩ := hx
    obtain ⟨l1, l2, rfl⟩ := List.append_of_mem he
    have h2 : Span (e :: (l1 ++ l2)) vs := h.sub fun x hx => by simp at hx ⊢; rcases hx with q | q | q <;> simp [q]
    have := ih (by rw [List.length_erase_of_mem hv, hm]; rfl) (hn.erase v) ((span_cut huv hn hv hu).1 h2)
    simp at this ⊢
    omega
def sumS : List E → (List E → Int) → Int
  | [], f => f []
  | e :: es, f => sumS es f + sumS es fun A => f (e :: A)
theorem sumS_congr : ∀ {es : List E} {f g : List E → Int}, (∀ A, (∀ e ∈ A, e ∈ es) → f A = g A) → sumS es f = sumS es g
  | [], f, g, h => h [] fun _ h => h
  | e :: es, f, g, h => by
    unfold sumS
    rw [sumS_congr (es := es) (f := f) (g := g) fun A hA => h A fun x hx => List.mem_cons_of_mem _ (hA x hx), sumS_congr (es := es) (f := fun A => f (e :: A)) (g := fun A => g (e :: A)) fun A hA => h _ fun x hx => by
      rcases List.mem_cons.1 hx with rfl | hx
      · exact List.mem_cons_self
      · exact List.mem_cons_of_mem _ (hA x hx)]
theorem sumS_add (es : List E) : ∀ (f g : List E → Int), sumS es (fun A => f A + g A) = sumS es f + sumS es g := by
  induction es with
  | nil => intro f g; rfl
  | cons e es ih =>
    intro f g
    unfold sumS
    rw [ih f g, ih (fun A => f (e :: A)) (fun A => g (e :: A))]
    omega
theorem sumS_mul (es : List E) (c : Int) : ∀ (f : List E → Int), sumS es (fun A => c * f A) = c * sumS es f := by
  induction es with
  | nil => intro f; rfl
  | cons e es ih =>
    intro f
    unfold sumS
    rw [ih f, ih fun A => f (e :: A), Int.mul_add]
theorem sumS_zero {es : List E} {f : List E → Int} (h : ∀ A, (∀ e ∈ A, e ∈ es) → f A = 0) : sumS es f = 0 := by
  rw [sumS_congr (g := fun _ => 0 * 0) fun A hA => h A hA, sumS_mul es 0 fun _ => 0, Int.zero_mul]
theorem sumS_perm {es es' : List E} (h : es.Perm es') : ∀ {f : List E → Int}, (∀ A B, A.Perm B → f A = f B) → sumS es f = sumS es' f := by
  induction h with
  | nil => intro f _; rfl
  | cons x _ ih =>
    intro f hf
    unfold sumS
    rw [ih hf, ih (f := fun A => f (x :: A)) fun A B hAB => hf _ _ (hAB.cons x)]
  | swap x y l =>
    intro f hf
    have e : sumS l (fun A => f (y :: x :: A)) = sumS l fun A => f (x :: y :: A) := sumS_congr fun A _ => hf _ _ (List.Perm.swap x y A)
    show sumS l f + sumS l (fun A => f (x :: A)) + (sumS l (fun A => f (y :: A)) + sumS l fun A => f (y :: x :: A)) = sumS l f + sumS l (fun A => f (y :: A)) + (sumS l (fun A => f (x :: A)) + sumS l fun A => f (x :: y :: A))
    omega
  | trans _ _ h1 h2 => intro f hf; exact (h1 hf).trans (h2 hf)
open Classical in
noncomputable def zt (c : Int) (vs : List Int) (A : List E) : Int := if Span A vs then (c - 1) ^ (A.length - vs.length) else 0
theorem zt_pos {c : Int} {vs : List Int} {A : List E} (h : Span A vs) : zt c vs A = (c - 1) ^ (A.length - vs.length) := if_pos h
theorem zt_neg {c : Int} {vs : List Int} {A : List E} (h : ¬ Span A vs) : zt c vs A = 0 := if_neg h
/-- The sets that span, each counted (c - 1) to the power of what is too much. -/
noncomputable def zsum (c : Int) (es : List E) (vs : List Int) : Int := sumS es (zt c vs)
theorem span_perm {A B : List E} (h : A.Perm B) (vs : List Int) : Span A vs ↔ Span B vs := ⟨fun k => k.sub fun _ hx => h.mem_iff.1 hx, fun k => k.sub fun _ hx => h.mem_iff.2 hx⟩
theorem zsum_rec (c : Int) : Rec c (zsum c) where
  perm := fun {es es' vs} h => sumS_perm h fun A B hAB => by
    by_cases k : Span A vs
    · rw [zt_pos k, zt_pos ((span_perm hAB vs).1 k), hAB.length_eq]
    · rw [zt_neg k, zt_neg fun q => k ((span_perm hAB vs).2 q)]
  nil := by
    show zt c [] [] = 1
    rw [zt_pos fun v hv => by cases hv]
    simp
  loop := fun e es vs hnd h0 h1 => by
    show sumS es (zt c vs) + sumS es (fun A => zt c vs (e :: A)) = c * sumS es (zt c vs)
    rw [← sumS_add, ← sumS_mul]
    refine sumS_congr fun A _ => ?_
    by_cases k : Span A vs
    · rw [zt_pos k, zt_pos ((span_loop h0 h1).2 k)]
      have hn := span_len vs.length rfl hnd k
      rw [List.length_cons, show A.length + 1 - vs.length = A.length - vs.length + 1 by omega, Int.pow_succ]
      generalize (c - 1) ^ (A.length - vs.length) = p
      rw [Int.mul_sub, Int.mul_comm p c]
      omega
    · rw [zt_neg k, zt_neg fun q => k ((span_loop h0 h1).1 q)]
      simp
  cut := fun e es vs u v huv _ hn hv hu => by
    show sumS es (zt c vs) + sumS es (fun A => zt c vs (e :: A)) = sumS es (zt c vs) + sumS es (zt c (vs.erase v))
    congr 1
    refine sumS_congr fun A _ => ?_
    have hl := List.length_erase_of_mem hv
    have hp : 0 < vs.length := List.length_pos_of_mem hv
    by_cases k : Span A (vs.erase v)
    · rw [zt_pos k, zt_pos ((span_cut huv hn hv hu).2 k), List.length_cons, hl, show A.length + 1 - vs.length = A.length - (vs.length - 1) by omega]
    · rw [zt_neg k, zt_neg fun q => k ((span_cut huv hn hv hu).1 q)]
  far := fun es vs _ _ hv hf => sumS_zero fun A hA => zt_neg (span_far hv fun e he => hf e (hA e he))
end Go.Proofs.Ytdfibdjjoplmmaa.Cf
end

section
namespace Go.Proofs.Ytdfibdjjoplmmaa.Cf
set_option linter.unusedVariables false
set_option linter.unusedSimpArgs false
open Go.RowKit Go.Proofs.YtdfibdjjoplmmaaW.PrintWords
/-- S has k members. -/
def Cnt {α : Type} (S : α → Prop) (k : Int) : Prop := ∃ L : List α, L.Nodup ∧ (∀ x, x ∈ L ↔ S x) ∧ (L.length : Int) = k
open Classical in
theorem nodup_sub {α : Type} : ∀ {L M : List α}, L.Nodup → (∀ x ∈ L, x ∈ M) → L.length ≤ M.length
  | [], M, _, _ => Nat.zero_le _
  | a :: L, M, hn, h => by
    have ha := h a List.mem_cons_self
    have h1 := nodup_sub (L := L) (M := M.erase a) (List.nodup_cons.1 hn).2 fun x hx => by
      have hxa : x ≠ a := fun e => (List.nodup_cons.1 hn).1 (e ▸ hx)
      exact (List.mem_erase_of_ne hxa).2 (h x (List.mem_cons_of_mem _ hx))
    rw [List.length_erase_of_mem ha] at h1
    have := List.length_pos_of_mem ha
    rw [List.length_cons]
    omega
theorem Cnt.unique {α : Type} {S : α → Prop} {k m : Int} (h : Cnt S k) (h' : Cnt S m) : k = m := by
  obtain ⟨L, hL, hs, rfl⟩ := h
  obtain ⟨M, hM, hs', rfl⟩ := h'
  have h1 := nodup_sub hL fun x hx => (hs' x).2 ((hs x).1 hx)
  have h2 := nodup_sub hM fun x hx => (hs x).2 ((hs' x).1 hx)
  omega
theorem nodup_map {α β : Type} {f : α → β} : ∀ {L : List α}, (∀ x ∈ L, ∀ y ∈ L, f x = f y → x = y) → L.Nodup → (L.map f).Nodup
  | [], _, _ => List.nodup_nil
  | a :: L, hf, hn => by
    rw [List.map_cons, List.nodup_cons]
    refine ⟨fun h => ?_, nodup_map (fun x hx y hy => hf x (List.mem_cons_of_mem _ hx) y (List.mem_cons_of_mem _ hy)) (List.nodup_cons.1 hn).2⟩
    obtain ⟨x, hx, he⟩ := List.mem_map.1 h
    have := hf x (List.mem_cons_of_mem _ hx) a List.mem_cons_self he
    exact (List.nodup_cons.1 hn).1 (this ▸ hx)
end Go.Proofs.Ytdfibdjjoplmmaa.Cf
end

section
namespace Go.Proofs.Ytdfibdjjoplmmaa.Cf
set_option linter.unusedVariables false
set_option linter.unusedSimpArgs false
open Go.RowKit Go.Proofs.YtdfibdjjoplmmaaW.PrintWords
theorem zt_one {vs : List Int} {A : List E} (h : Span A vs) : zt 1 vs A = if A.length ≤ vs.length then 1 else 0 := by
  rw [zt_pos h, Int.sub_self]
  by_cases c : A.length ≤ vs.length
  · rw [if_pos c, Nat.sub_eq_zero_of_le c]
    rfl
  · rw [if_neg c]
    exact Int.zero_pow (by omega)
theorem dlap_zsum {es : List E} {vs : List Int} (hl : ∀ x ∈ es, x.f0 ≠ x.f1) (hn : vs.Nodup) : dlap es vs = zsum 1 es vs := Rec.unique (zsum_rec 1) dlap_rec hl hn
/-- All sets of places from i on. -/
def idxL : Nat → List E → List (List Int)
  | _, [] => [[]]
  | i, _ :: es => idxL (i + 1) es ++ (idxL (i + 1) es).map fun s => (i : Int) :: s
theorem idxL_mem : ∀ {es : List E} {i : Nat} {s : List Int}, s ∈ idxL i es ↔ (∀ x ∈ s, (i : Int) ≤ x ∧ x < ((i + es.length : Nat) : Int)) ∧ s.Pairwise (· < ·)
  | [], i, s => by
    rw [idxL, List.mem_singleton]
    constructor
    · rintro rfl
      exact ⟨fun x hx => absurd hx List.not_mem_nil, List.Pairwise.nil⟩
    · rintro ⟨h, _⟩
      cases s with
      | nil => rfl
      | cons a s =>
        have := h a List.mem_cons_self
        rw [List.length_nil] at this
        omega
  | e :: es, i, s => by
    rw [idxL, List.mem_append, List.mem_map]
    constructor
    · rintro (h | ⟨t, ht, rfl⟩)
      · obtain ⟨h1, h2⟩ := idxL_mem.1 h
        refine ⟨fun x hx => ?_, h2⟩
        have := h1 x hx
        rw [List.length_cons]
        omega
      · obtain ⟨h1, h2⟩ := idxL_mem.1 ht
        refine ⟨fun x hx => ?_, List.pairwise_cons.2 ⟨fun y hy => by have := h1 y hy; omega, h2⟩⟩
        rw [List.length_cons]
        rcases List.mem_cons.1 hx with rfl | hx
        · omega
        · have := h1 x hx
          omega
    · rintro ⟨h1, h2⟩
      rw [List.length_cons] at h1
      cases s with
      | nil => exact Or.inl (idxL_mem.2 ⟨fun x hx => absurd hx List.not_mem_nil, List.Pairwise.nil⟩)
      | cons a s =>
        rw [List.pairwise_cons] at h2
        have ha := h1 a List.mem_cons_self
        have hs : ∀ x ∈ s, ((i + 1 : Nat) : Int) ≤ x ∧ x < ((i + 1 + es.length : Nat) : Int) := fun x hx => by
          have := h2.1 x hx
          have := h1 x (List.mem_cons_of_mem _ hx)
          omega
        by_cases c : a = (i : Int)
        · subst c
          exact Or.inr ⟨s, idxL_mem.2 ⟨hs, h2.2⟩, rfl⟩
        · refine Or.inl (idxL_mem.2 ⟨fun x hx => ?_, List.pairwise_cons.2 h2⟩)
          rcases List.mem_cons.1 hx with rfl | hx
          · omega
          · exact hs x hx
theorem idxL_nodup : ∀ (es : List E) (i : Nat), (idxL i es).Nodup
  | [], _ => List.nodup_cons.2 ⟨List.not_mem_nil, List.nodup_nil⟩
  | e :: es, i => by
    rw [idxL, List.nodup_append]
    refine ⟨idxL_nodup es (i + 1), nodup_map (fun x _ y _ h => by injection h) (idxL_nodup es (i + 1)), ?_⟩
    intro a ha b hb hab
    subst hab
    obtain ⟨t, ht, rfl⟩ := List.mem_map.1 hb
    have := (idxL_mem.1 ha).1 i List.mem_cons_self
    omega
def edgesFrom (es : List E) (i : Nat) (s : List Int) : List E := s.map fun k => es.getD (k.toNat - i) ⟨0, 0⟩
/-- The number of sets that count 1. -/
theorem sumS_count (p : List E → Bool) : ∀ (es : List E) (i : Nat) (pre : List E), sumS es (fun A => if p (pre ++ A) = true then 1 else 0) = (((idxL i es).filter fun s => p (pre ++ edgesFrom es i s)).length : Int)
  | [], i, pre => by
    unfold sumS idxL
    show (if p (pre ++ []) = true then (1 : Int) else 0) = _
    by_cases h : p (pre ++ []) = true
    · rw [if_pos h, List.filter_cons_of_pos (by exact h)]
      rfl
    · rw [if_neg h, List.filter_cons_of_neg (by exact h)]
      rfl
  | e :: es, i, pre => by
    unfold sumS idxL
    rw [List.filter_append, List.length_append, List.filter_map, List.length_map]
    show sumS es (fun A => if p (pre ++ A) = true then (1 : Int) else 0) + sumS es (fun A => if p (pre ++ e :: A) = true then (1 : Int) else 0) = _
    have e1 : sumS es (fun A => if p (pre ++ A) = true then (1 : Int) else 0) = _ := sumS_count p es (i + 1) pre
    have e2 : sumS es (fun A => if p (pre ++ e :: A) = true then (1 : Int) else 0) = (((idxL (i + 1) es).filter fun s => p (pre ++ e :: edgesFrom es (i + 1) s)).length : Int) := by
      have := sumS_count p es (i + 1) (pre ++ [e])
      simp only [List.append_assoc, List.singleton_append] at this
      exact this
    rw [e1, e2]
    have c : ∀ s ∈ idxL (i + 1) es, edgesFrom (e :: es) i s = edgesFrom es (i + 1) s := fun s hs => by
      unfold edgesFrom
      refine List.map_congr_left fun k hk => ?_
      have := (idxL_mem.1 hs).1 k hk
      rw [show k.toNat - i = (k.toNat - (i + 1)) + 1 by omega]
      rfl
    have f1 : (idxL (i + 1) es).filter (fun s => p (pre ++ edgesFrom (e :: es) i s)) = (idxL (i + 1) es).filter fun s => p (pre ++ edgesFrom es (i + 1) s) := List.filter_congr fun s hs => by rw [c s hs]
    have f2 : (idxL (i + 1) es).filter ((fun s => p (pre ++ edgesFrom (e :: es) i s)) ∘ fun s => (i : Int) :: s) = (idxL (i + 1) es).filter fun s => p (pre ++ e :: edgesFrom es (i + 1) s) := List.filter_congr fun s hs => by
      show p (pre ++ edgesFrom (e :: es) i ((i : Int) :: s)) = _
      have : edgesFrom (e :: es) i ((i : Int) :: s) = e :: edgesFrom (e :: es) i s := by
        unfold edgesFrom
        rw [List.map_cons, Int.toNat_natCast, Nat.sub_self]
        rfl
      rw [this, c s hs]
    rw [f1, f2]
    omega
theorem span_joined {n : Nat} (hn : 1 ≤ n) {A : List E} (hA : ∀ e ∈ A, EOk (n : Int) e) : Span A (vsL n 0) ↔ Joined (n : Int) A := by
  constructor
  · intro h v h0 h1
    by_cases c : v = 0
    · rw [c]
      exact Conn.refl
    · obtain ⟨u, hu, huv⟩ := h v ((vsL_mem (by omega)).2 ⟨⟨h0, h1⟩, c⟩)
      have hr := EsOk.conn hA ⟨h0, h1⟩ huv.symm
      have hu0 : u = 0 := Classical.byContradiction fun hc => hu ((vsL_mem (by omega)).2 ⟨hr, hc⟩)
      rw [hu0] at huv
      exact huv
  · intro h v hv
    have := (vsL_mem (by omega)).1 hv
    exact ⟨0, fun c => ((vsL_mem (by omega)).1 c).2 rfl, h v this.1.1 this.1.2⟩
/-- There are as many spanning trees as the determinant says. -/
theorem treeL_count {n : Nat} {es : List E} (hg : GOk (n : Int) es) : ((treeL (n : Int) es).length : Int) = dlap es (vsL n 0) := by
  have h1 : 1 ≤ n := by have := hg.1.1; omega
  have hes := hg.1.2.2.2
  have hl : ∀ x ∈ es, x.f0 ≠ x.f1 := fun x hx => by have := hes x hx; unfold EOk at this; omega
  have hvl := vsL_len (n := n) (q := 0) (by omega)
  rw [dlap_zsum hl (vsL_nodup n 0)]
  unfold zsum
  classical
  have e0 : sumS es (zt 1 (vsL n 0)) = sumS es (fun A => if (decide (Span ([] ++ A) (vsL n 0) ∧ ([] ++ A).length ≤ n - 1)) = true then 1 else 0) := by
    refine sumS_congr fun A _ => ?_
    rw [List.nil_append]
    by_cases c : Span A (vsL n 0)
    · rw [zt_one c, hvl]
      by_cases d : A.length ≤ n - 1
      · rw [if_pos d, if_pos (decide_eq_true ⟨c, d⟩)]
      · rw [if_neg d, if_neg (by simp [d])]
    · rw [zt_neg c, if_neg (by simp [c])]
  rw [e0, sumS_count (fun B => decide (Span B (vsL n 0) ∧ B.length ≤ n - 1)) es 0 []]
  have hc1 : Cnt (fun s => TreeOk (n : Int) es s) ((treeL (n : Int) es).length : Int) := by
    refine ⟨treeL (n : Int) es, ?_, fun x => treeL_mem, rfl⟩
    unfold treeL
    refine List.Pairwise.filter _ ?_
    have hinj : ∀ {k : Nat}, (setsN es.length k).Nodup := by
      intro k
      induction k with
      | zero => exact List.nodup_cons.2 ⟨List.not_mem_nil, List.nodup_nil⟩
      | succ k ih =>
        show ((setsN es.length k).flatMap fun s => extS s es.length).Nodup
        rw [List.Nodup, List.pairwise_flatMap]
        refine ⟨fun s _ => ?_, ih.imp ?_⟩
        · unfold extS
          rw [List.pairwise_map]
          refine List.nodup_range.imp fun h e => h ?_
          have := List.append_cancel_left e
          injection this with this
          omega
        · intro a b hab x hx y hy e
          obtain ⟨j, _, _, rfl⟩ := extS_mem.1 hx
          obtain ⟨j', _, _, rfl⟩ := extS_mem.1 hy
          exact hab (List.append_inj_left' e rfl)
    exact hinj
  have hc2 : Cnt (fun s => TreeOk (n : Int) es s) (((idxL 0 es).filter fun s => decide (Span ([] ++ edgesFrom es 0 s) (vsL n 0) ∧ ([] ++ edgesFrom es 0 s).length ≤ n - 1)).length : Int) := by
    refine ⟨_, (idxL_nodup es 0).filter _, fun s => ?_, rfl⟩
    rw [List.mem_filter, idxL_mem, decide_eq_true_eq, List.nil_append]
    have hed : edgesFrom es 0 s = edgesAt es s := rfl
    rw [hed]
    have hlen : (edgesAt es s).length = s.length := by unfold edgesAt; rw [List.length_map]
    constructor
    · rintro ⟨⟨hr, hp⟩, hs, hle⟩
      have hIn : InR es s s.length := fun j hj _ => by have := hr _ (List.getElem_mem hj); omega
      have hok := edgesAt_ok hes hIn
      have := span_len (n - 1) hvl (vsL_nodup n 0) hs
      exact ⟨hg, by omega, hIn, up_of hp, (span_joined h1 hok).1 hs⟩
    · intro h
      have hok := edgesAt_ok hes h.2.2.1
      refine ⟨⟨fun x hx => ?_, up_pw h.2.2.2.1⟩, (span_joined h1 hok).2 h.2.2.2.2, by have := h.2.1; omega⟩
      obtain ⟨j, hj, rfl⟩ := List.getElem_of_mem hx
      have := h.2.2.1 j hj hj
      omega
  exact hc1.unique hc2
end Go.Proofs.Ytdfibdjjoplmmaa.Cf
end

section
namespace Go.Proofs.Ytdfibdjjoplmmaa.Cf
set_option linter.unusedVariables false
set_option linter.unusedSimpArgs false
open Go.RowKit Go.Proofs.YtdfibdjjoplmmaaW.PrintWords Go.Proofs.Ytdfibdjjoplmmaa.P
theorem rdL_get {l : List (List Int)} {i : Nat} (h : i < l.length) : rd_L3 l (i : Int) = l[i] := by simp [rd_L3, List.getD, h]
def Small (l : List (List Int)) : Prop := l.length ≤ 1048576 ∧ ∀ r ∈ l, r.length ≤ 1048576
theorem eqIntSS_l0 (x : List (List Int)) (h : Small x) : ∀ (d i : Nat), i + d = x.length → Ep (fun k => laws_eqIntSS.l0 k x x (i : Int)) (· = true) := by
  intro d
  have := h.1
  induction d with
  | zero =>
    intro i hi
    refine Ep.up ?_
    simp only [laws_eqIntSS.l0]
    exact Ep.neg (by omega) (Ep.now rfl)
  | succ d ih =>
    intro i hi
    have hlt : i < x.length := by omega
    refine Ep.up ?_
    simp only [laws_eqIntSS.l0]
    refine Ep.pos (by omega) (Ep.pos (by omega) (Ep.pos (by omega) ?_))
    rw [rdL_get hlt, wrap_succ (by omega)]
    refine Ep.bind (eqIntS_ok _ (h.2 _ (List.getElem_mem hlt))) ?_
    rintro _ rfl
    exact Ep.pos rfl (ih (i + 1) (by omega))
theorem eqIntSS_ok (x : List (List Int)) (h : Small x) : Ep (fun k => laws_eqIntSS.f k x x) (· = true) := by
  simp only [laws_eqIntSS.f]
  exact Ep.pos trivial (eqIntSS_l0 x h x.length 0 (by omega))
/-- The rows with their marks. -/
def mksL : List (List Int) → Int → List (List Int)
  | [], _ => []
  | x :: xs, a => marks a x.length :: mksL xs (a + x.length)
/-- The next number. -/
def mksE : List (List Int) → Int → Int
  | [], a => a
  | x :: xs, a => mksE xs (a + x.length)
theorem mksE_ge : ∀ (l : List (List Int)) (a : Int), a ≤ mksE l a
  | [], a => Int.le_refl _
  | x :: xs, a => by
    have := mksE_ge xs (a + x.length)
    show a ≤ mksE xs (a + x.length)
    omega
theorem mksL_len : ∀ (l : List (List Int)) (a : Int), (mksL l a).length = l.length
  | [], a => rfl
  | x :: xs, a => by show (mksL xs (a + x.length)).length + 1 = xs.length + 1; rw [mksL_len xs]
theorem markSSR_go (l : List (List Int)) : ∀ (a : Int) (m : Nat), (∀ r ∈ l, r.length ≤ 1048576) → m + l.length ≤ 1048576 → 0 ≤ a → a ≤ 1 + (m : Int) * 1048576 → Ep (fun k => laws_markIntSS.goR k l a) (· = (mksL l a, mksE l a)) := by
  induction l with
  | nil =>
    intro a m _ _ h0 _
    simp only [laws_markIntSS.goR]
    exact Ep.now rfl
  | cons x l ih =>
    intro a m hr hl h0 h1
    rw [List.length_cons] at hl
    have hx := hr x List.mem_cons_self
    simp only [laws_markIntSS.goR]
    refine Ep.bind (markIntS_ok x a hx ⟨h0, by omega⟩) ?_
    rintro _ rfl
    refine Ep.bind (ih (a + x.length) (m + 1) (fun r h => hr r (List.mem_cons_of_mem _ h)) (by omega) (by omega) (by omega)) ?_
    rintro _ rfl
    exact Ep.now rfl
theorem markSSR_ok (l : List (List Int)) (h : Small l) : Ep (fun k => laws_markIntSS.fR k l 1) (· = (mksL l 1, mksE l 1)) := by
  have h1 := h.1
  simp only [laws_markIntSS.fR]
  exact Ep.pos h1 (markSSR_go l 1 0 h.2 (by omega) (by omega) (by omega))
theorem heldSS_l0 (R : List (List Int)) (hR : R.length ≤ 1048576) (l : List (List Int)) : ∀ (a : Int) (i : Nat), i + l.length = R.length → R.drop i = mksL l a → (∀ r ∈ l, r.length ≤ 1048576) → 0 ≤ a → a ≤ 1 + (i : Int) * 1048576 → Ep (fun k => laws_heldIntSS.l0 k R a (i : Int)) (· = mksE l a) := by
  induction l with
  | nil =>
    intro a i hi hd hr h0 h1
    rw [List.length_nil] at hi
    refine Ep.up ?_
    simp only [laws_heldIntSS.l0]
    exact Ep.neg (by omega) (Ep.now rfl)
  | cons x l ih =>
    intro a i hi hd hr h0 h1
    rw [List.length_cons] at hi
    have hlt : i < R.length := by omega
    have hd2 : R[i] :: R.drop (i + 1) = marks a x.length :: mksL l (a + x.length) := by
      rw [← List.drop_eq_getElem_cons hlt, hd]
      rfl
    injection hd2 with e1 e2
    have hx := hr x List.mem_cons_self
    have e : rd_L3 R (i : Int) = marks a x.length := by rw [rdL_get hlt, e1]
    have h := ih (a + x.length) (i + 1) (by omega) e2 (fun r h => hr r (List.mem_cons_of_mem _ h)) (by omega) (by omega)
    refine Ep.up ?_
    simp only [laws_heldIntSS.l0]
    refine Ep.pos (by omega) (Ep.pos (by omega) ?_)
    rw [e, wrap_succ (by omega)]
    refine Ep.bind (heldIntS_ok x.length a hx ⟨h0, by omega⟩) ?_
    rintro _ rfl
    exact Ep.neg (by omega) h
theorem heldSS_ok (l : List (List Int)) (h : Small l) : Ep (fun k => laws_heldIntSS.f k (mksL l 1) 1) (· = mksE l 1) := by
  have h1 := h.1
  simp only [laws_heldIntSS.f]
  exact heldSS_l0 (mksL l 1) (by rw [mksL_len]; exact h1) l 1 0 (by rw [mksL_len, Nat.zero_add]) rfl h.2 (by omega) (by omega)
theorem mksE_pos (l : List (List Int)) : ¬ mksE l 1 < 0 := by have := mksE_ge l 1; omega
def EWf (e : E) : Prop := Wf .i64 e.f0 ∧ Wf .i64 e.f1
theorem rdLE_get {es : List E} {i : Nat} (h : i < es.length) : rd_T86 es (i : Int) = es[i] := by simp [rd_T86, List.getD, h]
theorem szGraph_ok (n : Int) (es : List E) (a : Int) (ha : 0 ≤ a ∧ a ≤ 1048576) (hl : es.length ≤ 9223372036854775807) : ∃ t, laws_szGraph.f n es a = some t ∧ t ≤ 1048576 ∧ (¬ t < 0 → es.length ≤ 1048576) := by
  unfold laws_szGraph.f laws_szEdgeS.f
  rw [wrap_id (by omega) (by omega)]
  by_cases h : a - (es.length : Int) < 0
  · refine ⟨-1, ?_, by omega, by omega⟩
    rw [if_pos h]
    simp
  · refine ⟨a - es.length, ?_, by omega, by omega⟩
    rw [if_neg h]
    simp only [Option.bind_some]
    rw [if_neg h]
theorem toEdgeS_l0 (x0 : List E) (h : x0.length ≤ 1048576) : ∀ (d i : Nat) (x3 : List E), i + d = x0.length → x3.length = x0.length → (∀ j, j < i → x3[j]? = x0[j]?) → Ep (fun k => laws_toEdgeS.l0 k x0 x3 (i : Int)) (· = x0) := by
  intro d
  induction d with
  | zero =>
    intro i x3 hi hl hx
    refine Ep.up ?_
    simp only [laws_toEdgeS.l0]
    refine Ep.neg (by omega) (Ep.now ?_)
    apply List.ext_getElem?
    intro j
    by_cases hj : j < i
    · exact hx j hj
    · rw [List.getElem?_eq_none (by omega), List.getElem?_eq_none (by omega)]
  | succ d ih =>
    intro i x3 hi hl hx
    have hlt : i < x0.length := by omega
    refine Ep.up ?_
    simp only [laws_toEdgeS.l0]
    refine Ep.pos (by omega) (Ep.pos (by omega) ?_)
    rw [rdLE_get hlt, wrap_succ (by omega)]
    refine Ep.bind0 rfl (Ep.pos (by omega) ?_)
    refine ih (i + 1) _ (by omega) (by simpa using hl) ?_
    intro j hj
    rw [Int.toNat_natCast]
    by_cases e : i = j
    · subst e
      rw [List.getElem?_set_self (by omega), List.getElem?_eq_getElem (by omega)]
    · rw [List.getElem?_set_ne e]
      exact hx j (by omega)
theorem toGraph_ok (n : Int) (es : List E) (h : es.length ≤ 1048576) : Ep (fun k => laws_toGraph.f k n es) (· = (n, es)) := by
  simp only [laws_toGraph.f, laws_toEdgeS.f]
  refine Ep.bind (P := (· = es)) (Ep.pos (by omega) (Ep.pos (by simp; omega) ?_)) ?_
  · exact toEdgeS_l0 es h es.length 0 _ (by omega) (by simp) (fun j hj => by omega)
  · rintro _ rfl
    exact Ep.now rfl
theorem eqEdge_ok (a b : Int) : laws_eqEdge.f a b a b = some true := by simp [laws_eqEdge.f]
theorem eqEdgeS_l0 (x : List E) (h : x.length ≤ 1048576) : ∀ (d i : Nat), i + d = x.length → Ep (fun k => laws_eqEdgeS.l0 k x x (i : Int)) (· = true) := by
  intro d
  induction d with
  | zero =>
    intro i hi
    refine Ep.up ?_
    simp only [laws_eqEdgeS.l0]
    exact Ep.neg (by omega) (Ep.now rfl)
  | succ d ih =>
    intro i hi
    refine Ep.up ?_
    simp only [laws_eqEdgeS.l0]
    refine Ep.pos (by omega) (Ep.pos (by omega) (Ep.pos (by omega) ?_))
    rw [wrap_succ (by omega)]
    exact Ep.bind0 (eqEdge_ok _ _) (Ep.pos rfl (ih (i + 1) (by omega)))
theorem eqGraph_ok (n : Int) (es : List E) (h : es.length ≤ 1048576) : Ep (fun k => laws_eqGraph.f k n es n es) (· = true) := by
  simp only [laws_eqGraph.f]
  refine Ep.pos trivial (Ep.bind (P := (· = true)) ?_ ?_)
  · simp only [laws_eqEdgeS.f]
    exact Ep.pos trivial (eqEdgeS_l0 es h es.length 0 (by omega))
  · rintro _ rfl
    exact Ep.pos rfl (Ep.now rfl)
theorem markEdgeS_l0 (n : Nat) (hn : n ≤ 1048576) {B : Int} (hB : B ≤ 1099511627776) : ∀ (d i : Nat) (x : List E) (a : Int), i + d = n → x.length = n → 0 ≤ a → a + 2 * d ≤ B → Ep (fun k => laws_markEdgeS.l0 k x a (i : Int)) (fun r => 0 ≤ r.1 ∧ r.1 ≤ B) := by
  intro d
  induction d with
  | zero =>
    intro i x a hi hx h0 ha
    refine Ep.up ?_
    simp only [laws_markEdgeS.l0]
    exact Ep.neg (by omega) (Ep.now ⟨h0, by omega⟩)
  | succ d ih =>
    intro i x a hi hx h0 ha
    refine Ep.up ?_
    simp only [laws_markEdgeS.l0]
    refine Ep.pos (by omega) (Ep.pos (by omega) (Ep.bind0 rfl ?_))
    rw [wrap_succ (by omega), wrap_id (x := a + 1) (by omega) (by omega), wrap_id (x := a + 1 + 1) (by omega) (by omega)]
    exact ih (i + 1) _ _ (by omega) (by simpa using hx) (by omega) (by omega)
theorem markGraph_ok (n : Int) (es : List E) (a : Int) (h : es.length ≤ 1048576) (ha : 0 ≤ a ∧ a ≤ 1000) : Ep (fun k => laws_markGraph.f k n es a) (fun r => 0 ≤ r.1 ∧ r.1 ≤ 3000000) := by
  have := markEdgeS_l0 es.length h (B := 3000000) (by omega) es.length 0 es a (by omega) rfl ha.1 (by omega)
  simp only [laws_markGraph.f, laws_markEdgeS.f]
  refine Ep.bind this ?_
  intro r hr
  exact Ep.now hr
theorem trO_small (n : Int) (es : List E) : Small (trO n es).1 := by
  unfold trO
  split
  · rename_i h
    have hg := gOk_iff.1 h.1
    have hG := hg.1
    unfold EsOk at hG
    obtain ⟨m, rfl⟩ := Int.eq_ofNat_of_zero_le (show 0 ≤ n by omega)
    have h4 := h.2
    rw [Int.toNat_natCast] at h4
    have hc := treeL_count hg
    refine ⟨by show (treeL (m : Int) es).length ≤ _; omega, fun s hs => ?_⟩
    have := (treeL_small hG.2.2.1 hG.2.1).2 s hs
    omega
  · exact ⟨Nat.zero_le _, fun s hs => absurd hs List.not_mem_nil⟩
theorem law_FnExactTreesOf (n : Int) (es : List E) (hn : Wf .i64 n) (hes : SL EWf es) : Ep (fun k => laws_FnExactTreesOf.f k n es) (· = true) := by
  have hS := trO_small n es
  simp only [laws_FnExactTreesOf.f]
  obtain ⟨t, ht, _, h2⟩ := szGraph_ok n es 1048576 (by omega) hes.1
  refine Ep.bind0 ht (Ep.ite (fun _ => Ep.now rfl) (fun hc2 => ?_))
  have hel := h2 hc2
  refine Ep.bind (toGraph_ok _ _ hel) ?_
  rintro _ rfl
  refine Ep.bind (specTrees _ _) ?_
  rintro _ rfl
  refine Ep.bind (toGraph_ok _ _ hel) ?_
  rintro _ rfl
  refine Ep.bind (implTrees _ _) ?_
  rintro _ rfl
  simp only [laws_FnExactTreesOf.tail]
  refine Ep.bind (eqIntSS_ok _ hS) ?_
  rintro _ rfl
  refine Ep.pos rfl (Ep.pos (by first | rfl | trivial) (Ep.bind (toGraph_ok _ _ hel) ?_))
  rintro _ rfl
  refine Ep.bind (eqGraph_ok _ _ hel) ?_
  rintro _ rfl
  refine Ep.pos rfl (Ep.bind (markGraph_ok _ _ 1 hel (by omega)) ?_)
  intro r hr
  refine Ep.neg (by omega) (Ep.bind (eqIntSS_ok _ hS) ?_)
  rintro _ rfl
  refine Ep.pos rfl (Ep.bind (markSSR_ok _ hS) ?_)
  rintro _ rfl
  simp only [laws_FnExactTreesOf.tail2]
  refine Ep.bind (heldSS_ok _ hS) ?_
  rintro _ rfl
  refine Ep.neg (mksE_pos _) (Ep.pos (by first | rfl | trivial) (Ep.bind (toGraph_ok _ _ hel) ?_))
  rintro _ rfl
  refine Ep.bind (implTrees _ _) ?_
  rintro _ rfl
  refine Ep.bind (eqIntSS_ok _ hS) ?_
  rintro _ rfl
  refine Ep.pos rfl (Ep.pos (by first | rfl | trivial) (Ep.bind (heldSS_ok _ hS) ?_))
  rintro _ rfl
  exact Ep.neg (mksE_pos _) (Ep.pos (by first | rfl | trivial) (Ep.now rfl))
end Go.Proofs.Ytdfibdjjoplmmaa.Cf
end

section
namespace Go.Proofs.Ytdfibdjjoplmmaa.Cf
set_option linter.unusedVariables false
set_option linter.unusedSimpArgs false
open Go.RowKit Go.ChangeShapes Go.WideShapes Go.Deep Go.Joins Go.Proofs.YtdfibdjjoplmmaaW.PrintWords
section
variable {H : Type} {enc : TypeId × Value → H} {P : Program} {w : World} {base : Nat} {spare : Nat → Bool} {held : Bool}
/-- A slice, whatever its elements are, if each of them can be told. -/
theorem trod_C {α : Type} {d : Kd α} {Q : α → Prop} (hd : Inhabited α) {t e : TypeId} {fuel : Nat} {cs : List Value} {x : DataW H × List MemPlace} (ht : P.underlying t = some (.slice e)) (hsz : P.cellsOf e = d.sz)
    (hel : ∀ (n : Nat) (cs : List Value) (y : DataW H × List MemPlace), DataW.trod enc P w base spare held n e cs = some y → ∃ a : α, d.K w a cs ∧ Q a)
    (h : DataW.trod enc P w base spare held fuel t cs = some x) : ∃ A len cap xs, cs = [.slice A len cap] ∧ xs.length = len ∧ len ≤ cap ∧ Kd.C d w A len xs ∧ SL Q xs := by
  rcases open_slice ht h with ⟨rfl, _⟩ | ⟨a, len, cap, m, n, D, Pl, rfl, _, hl, hm, hmm, _, hx⟩
  · exact ⟨none, 0, 0, [], rfl, rfl, Nat.le_refl _, ⟨rfl, by omega, fun hn => by omega⟩, by simp, fun x hx => by cases hx⟩
  · have hlm : len ≤ m := by rw [hmm]; split <;> omega
    obtain ⟨X, hX⟩ := choose_lt (α := α) (n := len) (p := fun i z => Q z ∧ ∃ c, c.length = d.sz ∧ d.K w z c ∧ ∀ j u, c[j]? = some u → w.cell? (a.add (i * d.sz + j)) = some u) (fun i hi => by
      obtain ⟨cs', h1, h2⟩ := hx i (by omega)
      obtain ⟨z, hz, hq⟩ := hel n cs' _ h2
      obtain ⟨_, hlen, hc⟩ := World.cells?_some h1
      refine ⟨z, hq, cs', by rw [hlen, hsz], hz, fun j u hj => ?_⟩
      have hjl : j < cs'.length := by
        apply Classical.byContradiction
        intro hc
        rw [List.getElem?_eq_none (by omega)] at hj
        cases hj
      have := hc j (by omega)
      rw [Deep.add_add, hsz] at this
      rw [this, hj])
    refine ⟨some a, len, cap, (List.range len).map X, rfl, by simp, hl, ⟨by simp, ?_, fun _ => ⟨a, rfl, fun j p hj => ?_⟩⟩, by simp; unfold maxLen at hm; omega, fun x hx => ?_⟩
    · unfold maxLen at hm
      omega
    · have hjl : j < len := by
        apply Classical.byContradiction
        intro hc
        rw [List.getElem?_eq_none (by simp; omega)] at hj
        cases hj
      have : p = X j := by
        rw [List.getElem?_eq_getElem (by simpa using hjl)] at hj
        simpa using hj.symm
      subst this
      exact (hX j hjl).2
    · obtain ⟨i, hi, rfl⟩ := List.mem_map.1 hx
      exact (hX i (List.mem_range.1 hi)).1
/-- A struct of two numbers. -/
theorem el_pair {k0 k1 : IntKind} {e : TypeId} {f0 f1 : Field} (he : P.underlying e = some (.struct #[f0, f1])) (ce : P.cellsOf e = 2) (o0 : f0.offset = 0) (o1 : f1.offset = 1) (c0 : P.cellsOf f0.type = 1) (c1 : P.cellsOf f1.type = 1)
    (u0 : P.underlying f0.type = some (.int k0)) (u1 : P.underlying f1.type = some (.int k1)) :
    ∀ (n : Nat) (cs : List Value) (y : DataW H × List MemPlace), DataW.trod enc P w base spare held n e cs = some y → ∃ a b : Int, cs = [.int k0 a, .int k1 b] ∧ Wf k0 a ∧ Wf k1 b := by
  intro n cs y h
  obtain ⟨y0, y1, m, _, hl, h0, h1⟩ := trod_struct2 he h
  rw [ce] at hl
  rw [o0, c0] at h0
  rw [o1, c1] at h1
  match cs, hl with
  | [a, b], _ =>
    obtain ⟨x, hx, _, wx⟩ := DataW.trod_int u0 h0
    obtain ⟨z, hz, _, wz⟩ := DataW.trod_int u1 h1
    simp at hx hz
    subst hx; subst hz
    exact ⟨x, z, rfl, wx, wz⟩
/-- A struct of a number and a slice that comes in. -/
theorem arg_graph {α : Type} {d : Kd α} {Q : α → Prop} (hd : Inhabited α) {r : Reach} {b0 : Nat} {t e : TypeId} {f0 f1 : Field} {v : Value} {x : DataW H} {p : List MemPlace} (hs : P.underlying t = some (.struct #[f0, f1])) (hone : oneCellFields P #[f0, f1] = true) (hC : P.cellsOf t = 2)
    (u0 : P.underlying f0.type = some (.int .i64)) (u1 : P.underlying f1.type = some (.slice e)) (hsz : P.cellsOf e = d.sz)
    (hel : ∀ (n : Nat) (cs : List Value) (y : DataW H × List MemPlace), DataW.trod enc P w base spare held n e cs = some y → ∃ a : α, d.K w a cs ∧ Q a)
    (hv : Value.okWide P w r b0 t v) (h : DataW.Trod enc P w base spare held t v x p) : ∃ n a len cap, ∃ xs : List α, v = .agg #[.int .i64 n, .slice a len cap] ∧ Wf .i64 n ∧ xs.length = len ∧ len ≤ cap ∧ Kd.C d w a len xs ∧ SL Q xs := by
  obtain ⟨v0, v1, y0, y1, m, rfl, _, _, h0, h1⟩ := open_agg2 hs hone hC hv h
  obtain ⟨n, hn, _, hw⟩ := DataW.trod_int u0 h0
  obtain ⟨A, len, cap, xs, hcs, hl, hc, hx, hq⟩ := trod_C hd u1 hsz hel h1
  simp at hn hcs
  subst hn; subst hcs
  exact ⟨n, A, len, cap, xs, rfl, hw, hl, hc, hx, hq⟩
end
end Go.Proofs.Ytdfibdjjoplmmaa.Cf
end

section
namespace Go.Proofs.Ytdfibdjjoplmmaa.Cf
theorem and2 {a b : Bool} (h : a = true) (k : b = true) : (a && b) = true := by rw [h, k]; rfl
theorem iniS : Try.prog.initOrder.toList = ['h', 'a', 'r', 'n', 'e', 's', 's', ' ', '6', '3', '0', 'a', '7', 'a', '6', '2', '8', 'c', '1', '8', '7', '8', '4', '5', '7', '2', '9', 'f', '5', '1', '3', '5', '1', 'd', '5', 'e', '4', 'e', '7', 'a', '6', 'f', '2', '0', '4', 'a', '1', '5', '9', '7', '1', '0', '6', '9', '3', '5', '5', '6', '5', '2', '2', '8', 'f', '6', 'e', '2', '7', '5', 'f', 'b', 'f', 'c', ' ', 'c', 'u', 't', ' ', 'a', 't', ' ', 'l', 'o', 'o', 'p', '.', 'e', 'x', 'a', 'm', 'p', 'l', 'e', '/', 'g', '0', '0', '8', '4', '1', '/', 'l', 'a', 'w', 's', '.', 'F', 'n', 'E', 'x', 'a', 'c', 't', 'T', 'u', 't', 't', 'e', 'O', 'f', ' ', 'l', 'o', 'o', 'p', '.', 'e', 'x', 'a', 'm', 'p', 'l', 'e', '/', 'g', '0', '0', '8', '4', '1', '/', 'l', 'a', 'w', 's', '.', 'F', 'n', 'B', 'r', 'i', 'd', 'g', 'e', 's', ' ', 'l', 'o', 'o', 'p', '.', 'e', 'x', 'a', 'm', 'p', 'l', 'e', '/', 'g', '0', '0', '8', '4', '1', '/', 'l', 'a', 'w', 's', '.', 'F', 'n', 'E', 'x', 'a', 'c', 't', 'T', 'r', 'e', 'e', 's', 'O', 'f', ' ', 'l', 'o', 'o', 'p', '.', 'e', 'x', 'a', 'm', 'p', 'l', 'e', '/', 'g', '0', '0', '8', '4', '1', '/', 'l', 'a', 'w', 's', '.', 'F', 'n', 'T', 'r', 'e', 'e', 's'] := by
  have h : Try.prog.initOrder = String.ofList ['h', 'a', 'r', 'n', 'e', 's', 's', ' ', '6', '3', '0', 'a', '7', 'a', '6', '2', '8', 'c', '1', '8', '7', '8', '4', '5', '7', '2', '9', 'f', '5', '1', '3', '5', '1', 'd', '5', 'e', '4', 'e', '7', 'a', '6', 'f', '2', '0', '4', 'a', '1', '5', '9', '7', '1', '0', '6', '9', '3', '5', '5', '6', '5', '2', '2', '8', 'f', '6', 'e', '2', '7', '5', 'f', 'b', 'f', 'c', ' ', 'c', 'u', 't', ' ', 'a', 't', ' ', 'l', 'o', 'o', 'p', '.', 'e', 'x', 'a', 'm', 'p', 'l', 'e', '/', 'g', '0', '0', '8', '4', '1', '/', 'l', 'a', 'w', 's', '.', 'F', 'n', 'E', 'x', 'a', 'c', 't', 'T', 'u', 't', 't', 'e', 'O', 'f', ' ', 'l', 'o', 'o', 'p', '.', 'e', 'x', 'a', 'm', 'p', 'l', 'e', '/', 'g', '0', '0', '8', '4', '1', '/', 'l', 'a', 'w', 's', '.', 'F', 'n', 'B', 'r', 'i', 'd', 'g', 'e', 's', ' ', 'l', 'o', 'o', 'p', '.', 'e', 'x', 'a', 'm', 'p', 'l', 'e', '/', 'g', '0', '0', '8', '4', '1', '/', 'l', 'a', 'w', 's', '.', 'F', 'n', 'E', 'x', 'a', 'c', 't', 'T', 'r', 'e', 'e', 's', 'O', 'f', ' ', 'l', 'o', 'o', 'p', '.', 'e', 'x', 'a', 'm', 'p', 'l', 'e', '/', 'g', '0', '0', '8', '4', '1', '/', 'l', 'a', 'w', 's', '.', 'F', 'n', 'T', 'r', 'e', 'e', 's'] := by kernel_rfl
  exact (congrArg String.toList h).trans String.toList_ofList
theorem iniW : behindMainWord (wordsSigns Try.prog.initOrder.toList) = [['c', 'u', 't'], ['a', 't'], ['l', 'o', 'o', 'p', '.', 'e', 'x', 'a', 'm', 'p', 'l', 'e', '/', 'g', '0', '0', '8', '4', '1', '/', 'l', 'a', 'w', 's', '.', 'F', 'n', 'E', 'x', 'a', 'c', 't', 'T', 'u', 't', 't', 'e', 'O', 'f'], ['l', 'o', 'o', 'p', '.', 'e', 'x', 'a', 'm', 'p', 'l', 'e', '/', 'g', '0', '0', '8', '4', '1', '/', 'l', 'a', 'w', 's', '.', 'F', 'n', 'B', 'r', 'i', 'd', 'g', 'e', 's'], ['l', 'o', 'o', 'p', '.', 'e', 'x', 'a', 'm', 'p', 'l', 'e', '/', 'g', '0', '0', '8', '4', '1', '/', 'l', 'a', 'w', 's', '.', 'F', 'n', 'E', 'x', 'a', 'c', 't', 'T', 'r', 'e', 'e', 's', 'O', 'f'], ['l', 'o', 'o', 'p', '.', 'e', 'x', 'a', 'm', 'p', 'l', 'e', '/', 'g', '0', '0', '8', '4', '1', '/', 'l', 'a', 'w', 's', '.', 'F', 'n', 'T', 'r', 'e', 'e', 's']] := (congrArg (fun x => behindMainWord (wordsSigns x)) iniS).trans (by kernel_rfl)
theorem mk_cut {P : Program} {r : List (List Char)} (h : behindMainWord (wordsSigns P.initOrder.toList) = ['c', 'u', 't'] :: r) : P.make = some .cut := by
  unfold Program.make
  rw [h]
  rfl
theorem lf_cut {P : Program} {r : List (List Char)} (h : behindMainWord (wordsSigns P.initOrder.toList) = ['c', 'u', 't'] :: r) (k : (stripLifts liftWords (['c', 'u', 't'] :: r)).1 = []) : P.liftsFinal = false := by
  unfold Program.liftsFinal Program.headLifts
  rw [h]
  simp [k]
theorem en_cut {P : Program} {r : List (List Char)} (h : behindMainWord (wordsSigns P.initOrder.toList) = ['c', 'u', 't'] :: r) (k1 : (stripLifts liftWords (['c', 'u', 't'] :: r)).1 = []) (k2 : ((stripLifts liftWords (['c', 'u', 't'] :: r)).2.head? == some "cut".toList) = true) (h1 : P.laysLater = false) (h2 : P.bearsReflect = false) (h3 : P.doorFits [] = true) : P.mayEnter = true := by
  unfold Program.mayEnter
  rw [h]
  simp only [k1, k2, h1, h2, h3]
  simp
theorem make : Try.prog.make = some .cut := mk_cut iniW
theorem lifted : Try.prog.liftsFinal = false := lf_cut iniW (by kernel_rfl)
theorem enter : Try.prog.mayEnter = true := en_cut iniW (by kernel_rfl) (by kernel_rfl) (by kernel_rfl) (by kernel_rfl) (by kernel_rfl)
end Go.Proofs.Ytdfibdjjoplmmaa.Cf
end

