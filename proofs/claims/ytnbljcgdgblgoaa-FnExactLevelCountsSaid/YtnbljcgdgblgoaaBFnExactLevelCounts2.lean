/- A part of the proof of FnExactLevelCounts. -/
import Derived.Test.YtnbljcgdgblgoaaBFnExactLevelCounts1
import Derived.Test.YtnbljcgdgblgoaaBFnExactLevelCounts0
import Derived.Deep.LoopGhost
import Derived.Test.YtnbljcgdgblgoaaBFnExactLevelCountsWWords
import Derived.Test.YtnbljcgdgblgoaaBFnExactLevelCountsWMore
import Derived.Laws.BitsLemmas
import Derived.StillTailTactics
import Derived.Deep.RegionLaw
import Derived.Lib.Walk
import Derived.Lib.SliceRun
set_option maxHeartbeats 8000000
set_option maxRecDepth 1000000
section
namespace Go.Proofs.Ytnbljcgdgblgoaa.P
open Go.RowKit Go.Proofs.YtnbljcgdgblgoaaW.PrintWords Go.Proofs.YtnbljcgdgblgoaaW.PrintLast Go.Proofs.YtnbljcgdgblgoaaW.PrintMore
attribute [local go_sem] max2_int min2_int max_two min_two max_three min_three max_four min_four
set_option linter.unusedVariables false
set_option linter.unusedSimpArgs false
def spec_l11Full.f (k : Nat) (aD : Int) (aC : List (S57)) (l1 : List Int) (a2 : Int) : Option (List Int) := (spec_FullPile.f k aD aC a2).bind fun aQ => ((spec_l07Minus.f k aQ l1).bind fun dA => (if 0 ≤ a2 then (if a2 < (dA.length : Int) then (some (dA.set (a2 : Int).toNat 0)) else (none)) else (none)))
theorem spec_l11Full.mono : ∀ a0 a1 a2 a3 k, LeO (spec_l11Full.f k a0 a1 a2 a3) (spec_l11Full.f (k + 1) a0 a1 a2 a3) := by
 intro a0 a1 a2 a3 k; unfold spec_l11Full.f; repeat' first | (with_reducible apply spec_FullPile.mono) | (with_reducible apply spec_l07Minus.mono) | (with_reducible exact LeO.refl _) | (with_reducible exact LeO.none _) | (with_reducible refine LeO.ite ?_ ?_) | (with_reducible refine LeO.bind ?_ (fun _ => ?_)) | apply spec_FullPile.mono | apply spec_l07Minus.mono | exact LeO.none _ | refine LeO.ite ?_ ?_ | refine LeO.bind ?_ (fun _ => ?_)
theorem spec_l11Full.calls (k : Nat) (aD : Int) (aH : Option Addr) (aG : Nat) (aC : List (S57)) (A1 : Option Addr) (c1 : Nat) (l1 : List Int) (a2 : Int) (r : List Int) (w : World) (hr0_1 : Kd.C k57 w aH aC.length aC) (hc0_1 : aC.length ≤ aG) (hr1 : Kd.C (Kd.int .i64) w A1 l1.length l1) (hc1 : l1.length ≤ c1) (h : spec_l11Full.f k aD aC l1 a2 = some r) :
  Calls Try.prog 67 #[.agg #[.int .i64 aD, .slice aH aC.length aG], .slice A1 l1.length c1, .int .i64 a2] w fun e w' => ∃ v0_ : Value, e = .returned (v0_) ∧ Kd.R (Kd.int .i64) 3 w' w.heap.size (fun _ => True) v0_ r ∧ Below w.heap.size w w' := by
 have hu25 := Try.underlying25; have bJ := zK_ hr0_1; have bE := zK_ hc0_1; clear hr0_1 hc0_1; have HR1 := zK_ hr1; have HC1 := zK_ hc1; clear hr1 hc1; have HB := zK_ (Below.refl w.heap.size w); have H : ((spec_FullPile.f k aD aC a2).bind fun aQ => ((spec_l07Minus.f k aQ l1).bind fun dA => (if 0 ≤ a2 then (if a2 < (dA.length : Int) then (some (dA.set (a2 : Int).toNat 0)) else (none)) else (none)))) = some r := h; clear h; obtain ⟨aQ, A40, H⟩ := zO_ H; (try dsimp only at H); have A4 := zK_ A40; clear A40; obtain ⟨dA, A50, H⟩ := zO_ H; (try dsimp only at H); have A5 := zK_ A50; clear A50; by_cases c6 : 0 ≤ a2; rotate_left
 ·rw [if_neg c6] at H; exact absurd H (by simp)
 rw [if_pos c6] at H; have eS := decide_eq_true c6; clear c6; by_cases c7 : a2 < (dA.length : Int); rotate_left
 ·rw [if_neg c7] at H; exact absurd H (by simp)
 rw [if_pos c7] at H; have d4 := decide_eq_true c7; clear c7; obtain ⟨o7, hy_⟩ : ∃ y_ : List Int, y_ = (dA.set (a2 : Int).toNat 0) := ⟨_, rfl⟩; (replace H : (some o7) = some r := zzY); have qW := zK_ hy_; clear hy_; obtain rfl := Option.some.inj H; go_enter Try.func67, Try.ntmps67; (go_wp2_with (first | ((with_reducible refine gate_dst (N := 3) rfl ?_); refine box_event ?hg (N := 3) ?hd (cs := #[.int .i64 aD, .slice aH aC.length aG]) (t := 25) ?hr ?_; (case hd => rfl); (case hg => rfl); (case hr => exact zz9); intro aE hg w9 hbox hb; have n_ := zA4 (below_step zz1 hb) hbox (zz10 : w.heap.size ≤ aE) (zz10 : w.heap.size ≤ aE); clear HB; obtain ⟨HB, aA, GW101, GE101⟩ := n_; clear hb hbox hg; have cH := zC20 aA; have cG := zC21 aA; have cE := blk_frozen aA.out 0; have cC := blk_frozen aA.out 1) | ((with_reducible refine gate_callee (f := 102) rfl ?_); refine goesL_ (some 10) rfl rfl Try.func102 (by kernel_rfl) rfl #[.agg #[.int .i64 aD, .slice aH aC.length aG], .int .i64 a2] rfl zz3 ?_; (with_reducible refine (spec_FullPile.calls k aD _ _ aC a2 aQ _ ?side1 ?side2 A4.out).mono ?_); (case side1 => exact zz6); (case side2 => exact bE.out); rintro e w11 ⟨v103, rfl, ho0, hb⟩; refine ⟨_, rfl, ?_⟩; have n_ := zA3 (Kd.R_lower ho0 (below_size zz0)) (blk_below (g := aE) (o := .cells #[.int .i64 aD, .slice aH aC.length aG] 25 (0, 0)) zz2 hb) (below_step zz0 hb); clear aA HB; obtain ⟨bT, aA, HB⟩ := n_; clear ho0 hb; obtain ⟨Ao12, co12, nJ⟩ := Kd.R_slice bT.out; subst nJ) | ((with_reducible refine gate_callee (f := 101) rfl ?_); refine goesL_ (some 12) rfl rfl Try.func101 (by kernel_rfl) rfl #[.slice Ao12 aQ.length co12, .slice A1 l1.length c1] rfl zz3 ?_; (with_reducible refine (spec_l07Minus.calls k _ _ aQ _ _ l1 dA _ ?side1 ?side2 ?side3 ?side4 A5.out).mono ?_); (case side1 => repeat (first | exact (Kd.R_reads' bT.out).2.2 | (with_reducible refine Kd.C_alloc ?_ _) | (with_reducible refine Kd.C_drewN ?_ _) | (with_reducible refine Kd.C_drew ?_))); (case side2 => exact (Kd.R_reads' bT.out).2.1); (case side3 => repeat (first | exact (Kd.C_below HR1.out HB.out) | (with_reducible refine Kd.C_alloc ?_ _) | (with_reducible refine Kd.C_drewN ?_ _) | (with_reducible refine Kd.C_drew ?_))); (case side4 => exact HC1.out); rintro e w13 ⟨v106, rfl, ho0, hb⟩; refine ⟨_, rfl, ?_⟩; have n_ := zA4 (Kd.R_elder' zz28 (Kd.R_base ho0) hb) (Kd.R_lower (Kd.R_new' ho0 (Kd.R_lt zz28)) (below_size zz0)) (blk_below (g := aE) (o := .cells #[.int .i64 aD, .slice aH aC.length aG] 25 (0, 0)) zz2 hb) (below_step zz0 hb); clear bT aA HB; obtain ⟨bT, dE, aA, HB⟩ := n_; clear ho0 hb; have p8 : 0 ≤ (a2 : Int) := of_decide_eq_true zz4; have q8 : (a2 : Int) < ((dA.length : Int) : Int) := of_decide_eq_true zz4; obtain ⟨go8, co8, r9, r8, gl8, cl8, HG8⟩ := Kd.R_form dE.out (by omega); (first | cases r9 | (injection r9 with ea_ en_ ec_; (first | subst ea_ | (injection ea_ with ea_; subst ea_)); subst ec_; clear en_)); have tR := zK_ r8; have DP := zK_ HG8; clear r8 gl8 HG8; obtain ⟨kV, oF⟩ := Kd.R_celln 0 dE.out (a2 : Int) p8 q8; replace p8 := eq_true p8; replace q8 := eq_true q8; have n_ := zK_ (Kd.R_mono (ok' := (fun k_ => some k_ ≠ (.slice Ao12 aQ.length co12 : Value).ownBlock)) dE.out (fun k_ hk => hk.2)); clear dE; have dE := n_; clear n_; obtain ⟨hy14_, hz14_⟩ := Kd.R_celln 0 dE.out (a2 : Int) (of_decide_eq_true zz4) (of_decide_eq_true zz4); have tO := Kd.R_putg dE.out (a2 : Int) 0) | ((with_reducible refine gate_store (t := 3) (p := 15) rfl ?_); refine store_event (t := 3) (p := 15) (v := ?vo_w15) (w1 := (w13.setCell ⟨go8, (a2 : Int).toNat, none⟩ (.int .i64 0))) ?hg ?ho ?hn ?hr ?_; (case ho => rfl); (case hg => rfl); (case hn => rfl); (case hr => exact zz9); intro w15 hw; have hg : w13.grownBy w15 (some go8) := (by rw [hw]; exact tO.2); have hp_ : Kd.R (Kd.int .i64) 3 w15 w.heap.size (fun k_ => some k_ ≠ (.slice Ao12 aQ.length co12 : Value).ownBlock) (.slice (some ⟨go8, 0, none⟩) dA.length co8) o7 := (by rw [hw, qW.out]; exact tO.1); clear tO; have n_ := zA4 (blk_grown (g := aE) (o := .cells #[.int .i64 aD, .slice aH aC.length aG] 25 (0, 0)) zz2 hg (Kd.R_ne dE.out aA.out (by decide))) (Kd.R_after (v := (.slice (some ⟨go8, 0, none⟩) dA.length co8)) (v1 := (.slice (some ⟨go8, 0, none⟩) dA.length co8)) (ok := (fun _ => True)) zz28 hg (.inl rfl)) hp_ (by rw [hw]; exact below_set (HB.out) tR.out : Below w.heap.size w w15); clear aA bT dE HB; obtain ⟨aA, bT, dE, HB⟩ := n_; clear hg hw hp_))); go_ret; exact ⟨_, zz7, by (with_reducible repeat (first | apply Kd.R_alloc | apply Kd.R_drewN | apply Kd.R_drew)); exact Kd.R_mono dE.out (fun _ hk => trivial), zz0⟩
def spec_RecurrentPiles.rows (k : Nat) (a0 : Int) (es : List S57) (q : Int) (L : List (List Int)) : List (List Int) := L.map fun x => (spec_l11Full.f k a0 es x q).getD []
abbrev spec_RecurrentPiles.ok (k : Nat) (a0 : Int) (es : List S57) (q : Int) (L : List (List Int)) : Prop := (∀ x ∈ L, (spec_l11Full.f k a0 es x q).isSome = true) ∧ L.length ≤ 1000000
theorem spec_RecurrentPiles.rows_up {k : Nat} {a0 : Int} {es : List S57} {q : Int} {L : List (List Int)} (h : spec_RecurrentPiles.ok k a0 es q L) : spec_RecurrentPiles.rows (k + 1) a0 es q L = spec_RecurrentPiles.rows k a0 es q L := by
 unfold spec_RecurrentPiles.rows; (refine List.map_congr_left fun x hx => ?_); obtain ⟨b, hb⟩ := Option.isSome_iff_exists.1 (h.1 x hx); rw [hb, spec_l11Full.mono _ _ _ _ k _ hb]
theorem spec_RecurrentPiles.ok_up {k : Nat} {a0 : Int} {es : List S57} {q : Int} {L : List (List Int)} (h : spec_RecurrentPiles.ok k a0 es q L) : spec_RecurrentPiles.ok (k + 1) a0 es q L := by
 refine ⟨fun x hx => ?_, h.2⟩; obtain ⟨b, hb⟩ := Option.isSome_iff_exists.1 (h.1 x hx); rw [spec_l11Full.mono _ _ _ _ k _ hb]; rfl
def spec_RecurrentPiles.f (k : Nat) (a0 : Int) (es : List S57) (q : Int) : Option (List (List Int) × Bool) :=
 (spec_GraphOk.f k a0 es).bind fun t => if t = true then (spec_l01In.f q 0 (wrap64 (a0 - 1))).bind fun u => if u = true then (spec_GroupOrder.f k a0 es).bind fun c => if c ≤ 400 then (spec_l11All.f k a0 es q).bind fun L => if spec_RecurrentPiles.ok k a0 es q L then (spec_l09Sort.f k (spec_RecurrentPiles.rows k a0 es q L)).bind fun r => some (r, true) else none else some ([], false) else some ([], false) else some ([], false)
theorem spec_RecurrentPiles.mono : ∀ a0 a1 a2 k, LeO (spec_RecurrentPiles.f k a0 a1 a2) (spec_RecurrentPiles.f (k + 1) a0 a1 a2) := by
 intro a0 a1 a2 k; unfold spec_RecurrentPiles.f; (refine LeO.bind (spec_GraphOk.mono _ _ k) fun t => LeO.ite (LeO.bind (LeO.refl _) fun u => LeO.ite (LeO.bind (spec_GroupOrder.mono _ _ k) fun c => LeO.ite (LeO.bind (spec_l11All.mono _ _ _ k) fun L => ?_) (LeO.refl _)) (LeO.refl _)) (LeO.refl _)); intro r h; (split at h); (case isFalse => cases h); rename_i hc; rw [if_pos (spec_RecurrentPiles.ok_up hc), spec_RecurrentPiles.rows_up hc]; obtain ⟨s, hs, h⟩ := Option.bind_eq_some_iff.mp h; rw [spec_l09Sort.mono _ k _ hs]; exact h
theorem spec_RecurrentPiles.calls (k : Nat) (aD : Int) (aH : Option Addr) (aG : Nat) (aC : List S57) (a1 : Int) (r1 : List (List Int)) (r2 : Bool) (w : World) (hr0_1 : Kd.C k57 w aH aC.length aC) (hc0_1 : aC.length ≤ aG) (h : spec_RecurrentPiles.f k aD aC a1 = some (r1, r2)) :
  Calls Try.prog 26 #[.agg #[.int .i64 aD, .slice aH aC.length aG], .int .i64 a1] w fun e w' => ∃ v0_ : Value, e = .returned (.tuple #[v0_, .bool r2]) ∧ Kd.S (Kd.slice 3 (Kd.int .i64)) 26 w' w.heap.size (fun _ => True) v0_ r1 ∧ Below w.heap.size w w' := by
 have hu25 := Try.underlying25; have HE := zK_ hr0_1; have HC := zK_ hc0_1; clear hr0_1 hc0_1; unfold spec_RecurrentPiles.f at h; replace h := zO_ h; obtain ⟨t, ht, h⟩ := h; have HTT := zK_ ht; clear ht
 cases t with
 | false =>
  rw [if_neg (by simp)] at h; obtain ⟨rfl, rfl⟩ := Prod.mk.inj (Option.some.inj h); clear h; go_enter Try.func26, Try.ntmps26; (go_wp2_with (first | ((with_reducible refine gate_dst (N := 2) rfl ?_); refine box_event ?hg (N := 2) ?hd (cs := #[.int .i64 aD, .slice aH aC.length aG]) (t := 25) ?hr ?_; (case hd => rfl); (case hg => rfl); (case hr => exact zz9); intro gg hg w1 hbox hb; have BG1 := zK_ hbox; have HB1 := zK_ hb; have hz0 : w1.cell? ⟨gg, 0, none⟩ = some (.int .i64 aD) := (blk_cell BG1.out 0).trans rfl; have hz1 : w1.cell? ⟨gg, 1, none⟩ = some (.slice aH aC.length aG) := (blk_cell BG1.out 1).trans rfl; clear hg hbox hb))); refine (spec_GraphOk.calls k aD _ _ aC false _ (Kd.C_below HE.out HB1.out) HC.out HTT.out).mono ?_; rintro e w2 ⟨rfl, hb⟩; have BG2 := zK_ (blk_below BG1.out hb); have HB2 := zK_ (below_step HB1.out hb); clear hb hz0 hz1 BG1; go_wp2; (go_ret2); exact ⟨_, rfl, Kd.S_nil _ _ _ _ _, HB2.out⟩
 | true =>
  rw [if_pos rfl] at h; replace h := zO_ h; obtain ⟨u, hu, h⟩ := h; have HUU := zK_ hu; clear hu
  cases u with
  | false =>
   rw [if_neg (by simp)] at h; obtain ⟨rfl, rfl⟩ := Prod.mk.inj (Option.some.inj h); clear h; go_enter Try.func26, Try.ntmps26; (go_wp2_with (first | ((with_reducible refine gate_dst (N := 2) rfl ?_); refine box_event ?hg (N := 2) ?hd (cs := #[.int .i64 aD, .slice aH aC.length aG]) (t := 25) ?hr ?_; (case hd => rfl); (case hg => rfl); (case hr => exact zz9); intro gg hg w1 hbox hb; have BG1 := zK_ hbox; have HB1 := zK_ hb; have hz0 : w1.cell? ⟨gg, 0, none⟩ = some (.int .i64 aD) := (blk_cell BG1.out 0).trans rfl; have hz1 : w1.cell? ⟨gg, 1, none⟩ = some (.slice aH aC.length aG) := (blk_cell BG1.out 1).trans rfl; clear hg hbox hb))); refine (spec_GraphOk.calls k aD _ _ aC true _ (Kd.C_below HE.out HB1.out) HC.out HTT.out).mono ?_; rintro e w2 ⟨rfl, hb⟩; have BG2 := zK_ (blk_below BG1.out hb); have HB2 := zK_ (below_step HB1.out hb); clear hb hz0 hz1 BG1; have hz0 : w2.cell? ⟨gg, 0, none⟩ = some (.int .i64 aD) := (blk_cell BG2.out 0).trans rfl; have hz1 : w2.cell? ⟨gg, 1, none⟩ = some (.slice aH aC.length aG) := (blk_cell BG2.out 1).trans rfl; (go_wp2_with fail); refine (spec_l01In.calls _ _ _ false _ HUU.out).mono ?_; rintro e w3 ⟨rfl, hd⟩; have hb := Drawn0.below hd; have BG3 := zK_ (blk_below BG2.out hb); have HB3 := zK_ (below_step HB2.out hb); clear hb hd hz0 hz1 BG2; go_wp2; (go_ret2); exact ⟨_, rfl, Kd.S_nil _ _ _ _ _, HB3.out⟩
  | true =>
   rw [if_pos rfl] at h; replace h := zO_ h; obtain ⟨c, hc, h⟩ := h; have HCT := zK_ hc; clear hc; by_cases hle : c ≤ 400; rotate_left
   ·rw [if_neg hle] at h; obtain ⟨rfl, rfl⟩ := Prod.mk.inj (Option.some.inj h); clear h; have d0 : decide (c > 400) = true := decide_eq_true (by omega); have d1 : decide (400 < c) = true := decide_eq_true (by omega); go_enter Try.func26, Try.ntmps26; (go_wp2_with (first | ((with_reducible refine gate_dst (N := 2) rfl ?_); refine box_event ?hg (N := 2) ?hd (cs := #[.int .i64 aD, .slice aH aC.length aG]) (t := 25) ?hr ?_; (case hd => rfl); (case hg => rfl); (case hr => exact zz9); intro gg hg w1 hbox hb; have BG1 := zK_ hbox; have HB1 := zK_ hb; have hz0 : w1.cell? ⟨gg, 0, none⟩ = some (.int .i64 aD) := (blk_cell BG1.out 0).trans rfl; have hz1 : w1.cell? ⟨gg, 1, none⟩ = some (.slice aH aC.length aG) := (blk_cell BG1.out 1).trans rfl; clear hg hbox hb))); refine (spec_GraphOk.calls k aD _ _ aC true _ (Kd.C_below HE.out HB1.out) HC.out HTT.out).mono ?_; rintro e w2 ⟨rfl, hb⟩; have BG2 := zK_ (blk_below BG1.out hb); have HB2 := zK_ (below_step HB1.out hb); clear hb hz0 hz1 BG1; have hz0 : w2.cell? ⟨gg, 0, none⟩ = some (.int .i64 aD) := (blk_cell BG2.out 0).trans rfl; have hz1 : w2.cell? ⟨gg, 1, none⟩ = some (.slice aH aC.length aG) := (blk_cell BG2.out 1).trans rfl; (go_wp2_with fail); refine (spec_l01In.calls _ _ _ true _ HUU.out).mono ?_; rintro e w3 ⟨rfl, hd⟩; have hb := Drawn0.below hd; have BG3 := zK_ (blk_below BG2.out hb); have HB3 := zK_ (below_step HB2.out hb); clear hb hd hz0 hz1 BG2; have hz0 : w3.cell? ⟨gg, 0, none⟩ = some (.int .i64 aD) := (blk_cell BG3.out 0).trans rfl; have hz1 : w3.cell? ⟨gg, 1, none⟩ = some (.slice aH aC.length aG) := (blk_cell BG3.out 1).trans rfl; (go_wp2_with fail); refine (spec_GroupOrder.calls k aD _ _ aC c _ (Kd.C_below HE.out HB3.out) HC.out HCT.out).mono ?_; rintro e w4 ⟨rfl, hb⟩; have BG4 := zK_ (blk_below BG3.out hb); have HB4 := zK_ (below_step HB3.out hb); clear hb hz0 hz1 BG3; go_wp2; (go_ret2); exact ⟨_, rfl, Kd.S_nil _ _ _ _ _, HB4.out⟩
   rw [if_pos hle] at h; replace h := zO_ h; obtain ⟨L, hL, h⟩ := h; (split at h); (case isFalse => cases h); rename_i hok; replace h := zO_ h; obtain ⟨r, hr, h⟩ := h; obtain ⟨rfl, rfl⟩ := Prod.mk.inj (Option.some.inj h); clear h; obtain ⟨hro, hLl⟩ := hok; unfold spec_l11All.f at hL; (split at hL); (case isFalse => cases hL); rename_i hokL; obtain ⟨⟨⟨hn0, hn6⟩, hV⟩, hbn⟩ := hokL; obtain ⟨n, rfl⟩ := Int.eq_ofNat_of_zero_le hn0; unfold spec_l11All.ok1 at hbn; rw [Int.toNat_natCast] at hV hbn hL; have hLe := Option.some.inj hL; have HLE := zK_ hLe; have HV := zK_ hV; have HBN := zK_ hbn; have HN := zK_ (show n ≤ 6 from by omega); have HRO := zK_ hro; have HLn := zK_ hLl; have HSO := zK_ hr; (have hnb : (L.length : Int) ≤ 1000000 := by omega); have t8 : (n : Int) ≤ 6 := hn6; have d0 : decide (c > 400) = false := decide_eq_false (by omega); have d1 : decide (400 < c) = false := decide_eq_false (by omega); have HUU := zK_ (show spec_l01In.f a1 0 ((n : Int) - 1) = some true from by have h_ := HUU.out; rw [show wrap64 ((n : Int) - 1) = (n : Int) - 1 from by unfold wrap64; omega] at h_; exact h_); clear hro hLl hL hle hr hn0 hn6 hV hbn hLe; go_enter Try.func26, Try.ntmps26; (go_wp2_with (first | ((with_reducible refine gate_dst (N := 2) rfl ?_); refine box_event ?hg (N := 2) ?hd (cs := #[.int .i64 (n : Int), .slice aH aC.length aG]) (t := 25) ?hr ?_; (case hd => rfl); (case hg => rfl); (case hr => exact zz9); intro gg hg w1 hbox hb; have BG1 := zK_ hbox; have HB1 := zK_ hb; have hz0 : w1.cell? ⟨gg, 0, none⟩ = some (.int .i64 (n : Int)) := (blk_cell BG1.out 0).trans rfl; have hz1 : w1.cell? ⟨gg, 1, none⟩ = some (.slice aH aC.length aG) := (blk_cell BG1.out 1).trans rfl; clear hg hbox hb))); refine (spec_GraphOk.calls k (n : Int) _ _ aC true _ (Kd.C_below HE.out HB1.out) HC.out HTT.out).mono ?_; rintro e w2 ⟨rfl, hb⟩; have BG2 := zK_ (blk_below BG1.out hb); have HB2 := zK_ (below_step HB1.out hb); clear hb hz0 hz1 BG1; have hz0 : w2.cell? ⟨gg, 0, none⟩ = some (.int .i64 (n : Int)) := (blk_cell BG2.out 0).trans rfl; have hz1 : w2.cell? ⟨gg, 1, none⟩ = some (.slice aH aC.length aG) := (blk_cell BG2.out 1).trans rfl; (go_wp2_with fail); refine (spec_l01In.calls _ _ _ true _ HUU.out).mono ?_; rintro e w3 ⟨rfl, hd⟩; have hb := Drawn0.below hd; have BG3 := zK_ (blk_below BG2.out hb); have HB3 := zK_ (below_step HB2.out hb); clear hb hd hz0 hz1 BG2; have hz0 : w3.cell? ⟨gg, 0, none⟩ = some (.int .i64 (n : Int)) := (blk_cell BG3.out 0).trans rfl; have hz1 : w3.cell? ⟨gg, 1, none⟩ = some (.slice aH aC.length aG) := (blk_cell BG3.out 1).trans rfl; (go_wp2_with fail); refine (spec_GroupOrder.calls k (n : Int) _ _ aC c _ (Kd.C_below HE.out HB3.out) HC.out HCT.out).mono ?_; rintro e w4 ⟨rfl, hb⟩; have BG4 := zK_ (blk_below BG3.out hb); have HB4 := zK_ (below_step HB3.out hb); clear hb hz0 hz1 BG3; have hz0 : w4.cell? ⟨gg, 0, none⟩ = some (.int .i64 (n : Int)) := (blk_cell BG4.out 0).trans rfl; have hz1 : w4.cell? ⟨gg, 1, none⟩ = some (.slice aH aC.length aG) := (blk_cell BG4.out 1).trans rfl; (go_wp2_with (first | ((with_reducible refine gate_dst (N := 25) rfl ?_); refine Kd.S_lit (w0 := w4) (Kd.slice 3 (Kd.int .i64)) w4.heap.size 26 ?hg (N := 25) ?hd (xs := ([] : List (List Int))) (inner := []) (ok := fun _ => True) (okp := fun _ => True) ?hr ?hp (fun _ hk => hk) trivial (Below.refl _ _) (Nat.le_refl _) (by simp) ?_; (case hd => rfl); (case hg => rfl); (case hr => exact zz9); (case hp => exact (Reps.none _ _)); intro v25 w5 ho hb hg_ hnew_; have HS5 := zK_ (Kd.S_mono (Kd.S_bound ho) (ok' := fun k_ => k_ < w5.heap.size) fun k_ hk => hk.2.2.1); have HB5 := zK_ hb; have BG5 := zK_ (blk_below BG4.out hb); have hy0 : w5.cell? ⟨gg, 0, none⟩ = some (.int .i64 (n : Int)) := (blk_cell BG5.out 0).trans rfl; have hy1 : w5.cell? ⟨gg, 1, none⟩ = some (.slice aH aC.length aG) := (blk_cell BG5.out 1).trans rfl; clear ho hb hg_ hnew_ hz0 hz1) | ((with_reducible refine gate_dst (N := 28) rfl ?_); refine Kd.R_lit (w0 := w5) (Kd.int .i64) w5.heap.size 3 ?hg (N := 28) ?hd (xs := ([] : List Int)) (inner := []) (ok := fun _ => True) (okp := fun _ => True) ?hr ?hp (fun _ hk => hk) trivial (Below.refl _ _) (Nat.le_refl _) (by simp) ?_; (case hd => rfl); (case hg => rfl); (case hr => exact zz9); (case hp => exact (Reps.none _ _)); intro v28 w6 ho hb hg_ hnew_; obtain ⟨AP, cP, eP⟩ := Kd.R_slice ho; subst eP; have DO := zK_ (Kd.R_mono (Kd.R_bound ho) (ok' := fun k_ => w5.heap.size ≤ k_ ∧ k_ < w6.heap.size) fun k_ hk => ⟨hk.2.1, hk.2.2.1⟩); have HB6 := zK_ hb; clear ho hb hg_ hnew_))); have HB56 := zK_ (below_step HB5.out HB6.out); have hpick := spec_l11All.pick k n a1 aH aG aC w4 HN.out (Kd.C_below HE.out HB4.out) HC.out HV.out n [] (fun k_ => w5.heap.size ≤ k_ ∧ k_ < w6.heap.size) (fun k_ => w6.heap.size ≤ k_) AP cP (.slice none 0 0) [] w6 (by simp) HBN.out (Kd.R_lower DO.out HB5.out.size) (fun k_ h1 h2 => by have h3 := h1.2; omega) (fun k_ h => h) (Kd.S_nil _ _ _ _ _) HB56.out (by show ([] : List (List Int)).length + (Cf.dfsB (spec_l11All.cnt k (n : Int) aC a1) n 0 []).length ≤ _; rw [Cf.dfs_box, List.length_nil]; have := Cf.boxL_len (c := (spec_l11All.cnt k (n : Int) aC a1)) (b := 24) (v := n) (fun u hu => by unfold spec_l11All.cnt; have := HV.out u hu; unfold mx; split; omega; split <;> omega); have := Nat.pow_le_pow_right (n := 24) (by omega) HN.out; omega); rw [List.nil_append, show ((([] : List Int).length : Nat)) = 0 from rfl, HLE.out] at hpick; refine hpick.mono ?_; rintro e w7 ⟨⟨v7, rfl, hS7⟩, hB7, hK7⟩; obtain ⟨A, cA, eA⟩ := Kd.S_slice hS7; subst eA; have HSL := zK_ (Kd.S_mono (Kd.S_bound hS7) (ok' := fun k_ => w5.heap.size ≤ k_ ∧ k_ < w7.heap.size) fun k_ hk => ⟨by rcases hk.1 with h | h; have := HB6.out.size; omega; exact h.1, hk.2.2.1⟩); have HSO7 := zK_ (Kd.S_mono (Kd.S_kept (Kd.S_below HS5.out HB6.out) hK7 fun k_ h1 h2 => by have h3 : w6.heap.size ≤ k_ := h2; have h4 : k_ < w5.heap.size := h1; have := HB6.out.size; omega) (ok' := fun k_ => k_ < w5.heap.size ∨ w7.heap.size ≤ k_) fun k_ h => Or.inl h); have HB7 := zK_ hB7; have HZ57 := zK_ (show w5.heap.size ≤ w7.heap.size from Nat.le_trans HB6.out.size hK7.1); clear hS7 hB7 hK7 hpick hy0 hy1 BG5 DO; (try go_wp2); (go_loopw [6, 31] (fun v6 v31 wr => ∃ i : Nat, v31 = .int .i64 (i : Int) ∧ Aside0 (i ≤ L.length ∧ w7.heap.size ≤ wr.heap.size) ∧ Aside0 (Below w4.heap.size w4 wr) ∧ Aside0 (Kd.S (Kd.slice 3 (Kd.int .i64)) 26 wr w4.heap.size (fun k_ => w5.heap.size ≤ k_ ∧ k_ < w7.heap.size) (.slice A L.length cA) L) ∧ Aside0 (Kd.S (Kd.slice 3 (Kd.int .i64)) 26 wr w4.heap.size (fun k_ => k_ < w5.heap.size ∨ w7.heap.size ≤ k_) v6 (spec_RecurrentPiles.rows k (n : Int) aC a1 (L.take i)))) (fun _ v _ => L.length - (intOf v).toNat)); case atStart => exact ⟨0, rfl, ⟨Nat.zero_le _, Nat.le_refl _⟩, HB7, HSL, HSO7⟩
   case round =>
    clear HSL HSO7 HB7; obtain ⟨i, rfl, HI, HBr, HLr, HSr⟩ := hrel; by_cases hlt : i < L.length; rotate_left
    ·have c0_ : decide ((i : Int) < (L.length : Int)) = false := decide_eq_false (by omega); have c1_ : decide (i < L.length) = false := decide_eq_false hlt; (have hi : i = L.length := by have := HI.out; omega); subst hi; clear hlt; have hS := HSr.out; rw [List.take_length] at hS; have HS8 := zK_ hS; clear hS; (go_wp2_with fail); refine (spec_l09Sort.callsS k _ _ _ r w4 _ HBr.out HS8.out HSO.out).mono ?_; rintro e w9 ⟨v9, rfl, hS9, hb⟩; have HS9 := zK_ hS9; have HB9 := zK_ (below_step HBr.out hb); clear hS9 hb; go_wp2; (go_ret2); exact ⟨_, rfl, Kd.S_mono (Kd.S_lower HS9.out HB4.out.size) (fun _ _ => trivial), below_step HB4.out HB9.out⟩
    have c0_ : decide ((i : Int) < (L.length : Int)) = true := decide_eq_true (by omega); have c1_ : decide (i < L.length) = true := decide_eq_true hlt; (have p1 : (0 : Int) ≤ (i : Int) := by omega); (have p2 : (i : Int) < (L.length : Int) := by omega); (have hib : (i : Int) ≤ 1000000 := by omega); obtain ⟨x, hxi⟩ : ∃ x, L[i]? = some x := ⟨_, List.getElem?_eq_getElem hlt⟩; (have hx : rd_L3 L (i : Int) = x := by unfold rd_L3; rw [Int.toNat_natCast, List.getD_eq_getElem?_getD, hxi]; rfl); obtain ⟨gL, _, _, eg, _, _, _⟩ := at_L3 (Kd.S_reads' HLr.out).2.2 (i : Int) p1 p2; subst eg; obtain ⟨cc, _, hM, hcell⟩ := Kd.S_get HLr.out ([] : List Int) (i : Int) p1 p2; obtain ⟨vx, hvx, hRx⟩ := hM; subst hvx; replace hcell := hcell 0 vx rfl; rw [show (L.getD ((i : Int)).toNat []) = x from hx] at hRx; obtain ⟨Ai, ci, ei⟩ := Kd.R_slice hRx; subst ei; rw [Int.toNat_natCast, show i * (Kd.slice 3 (Kd.int .i64)).sz + 0 = i from Nat.mul_one i] at hcell; have HRi := zK_ (Kd.R_reads' hRx); obtain ⟨row, hrow⟩ := Option.isSome_iff_exists.1 (HRO.out x (List.mem_of_getElem? hxi)); have HROW := zK_ hrow; have HLT := zK_ hlt; have HXI := zK_ hxi; have HOL := zK_ (show (spec_RecurrentPiles.rows k (n : Int) aC a1 (L.take i)).length ≤ 1000000 from by unfold spec_RecurrentPiles.rows; rw [List.length_map, List.length_take]; have := HLn.out; omega); have BGr := zK_ (blk_below BG4.out HBr.out); have hz0 : wr.cell? ⟨gg, 0, none⟩ = some (.int .i64 (n : Int)) := (blk_cell BGr.out 0).trans rfl; have hz1 : wr.cell? ⟨gg, 1, none⟩ = some (.slice aH aC.length aG) := (blk_cell BGr.out 1).trans rfl; clear hxi hlt hx hRx hrow; (go_wp2_with fail); refine (spec_l11Full.calls k (n : Int) _ _ aC _ _ x a1 row _ (Kd.C_below HE.out (below_step HB4.out HBr.out)) HC.out HRi.out.2.2 HRi.out.2.1 HROW.out).mono ?_; rintro e w8 ⟨v8, rfl, hP, hb⟩; obtain ⟨AP, cP, eP⟩ := Kd.R_slice hP; subst eP; have vY := zK_ (Kd.R_mono (Kd.R_bound hP) (ok' := fun k_ => wr.heap.size ≤ k_) fun k_ hk => hk.2.1); have HB8 := zK_ hb; clear hP hb hz0 hz1; (go_wp2_with (first | ((with_reducible refine gate_builtin (b := .append) (xs := #[.tmp 35, .tmp 40]) rfl ?_); at_builtin; refine Kd.S_append (Kd.slice 3 (Kd.int .i64)) (w0 := w4) w4.heap.size rfl (.tmp 35) (.tmp 40) 34 26 (.slice none 0 0) 24 rfl Try.underlying34 info26 rfl (by decide) (by omega) u6 (spec_RecurrentPiles.rows k (n : Int) aC a1 (L.take i)) row [.slice AP row.length cP] (fun k_ => k_ < w5.heap.size ∨ w7.heap.size ≤ k_) (fun k_ => wr.heap.size ≤ k_) rfl rfl (Kd.M_row (Kd.R_lower vY.out (below_size HBr.out))) (fun k_ hk => ⟨Or.inr (by have := HI.out; omega), fun e => by have := Kd.S_lt HSr.out k_ e.symm; omega⟩) (fun k_ hk => Or.inr (by have := HI.out; have := HB8.out.size; omega)) (Kd.S_mono (Kd.S_below (Kd.S_bound HSr.out) HB8.out) fun k_ hk => ⟨hk.1, fun h => by have := hk.2.2.1; omega⟩) (below_step HBr.out HB8.out) (below_size (below_step HBr.out HB8.out)) (by have := HOL.out; omega) ?_; intro vE wE ho hb hg hat; have HOE := zK_ ho; have HBE := zK_ hb; have HLE2 := zK_ (Kd.S_grown (Kd.S_below (Kd.S_bound HLr.out) HB8.out) hg fun k_ hk e => by have := HSr.out.choose_spec.1 k_ e.symm; have h2 := hk.1; omega); have HZE := zK_ hg.size; clear ho hb hg hat))); go_roundw
    case rel =>
     refine ⟨i + 1, by go_num, ⟨HLT.out, by have := HB8.out.size; have := HZE.out; have := HI.out; omega⟩, HBE, ⟨Kd.S_mono HLE2.out fun k_ hk => hk.1⟩, ⟨?_⟩⟩; unfold spec_RecurrentPiles.rows; rw [List.take_add_one, HXI.out, List.map_append, show (Option.toList (some x)).map (fun x => (spec_l11Full.f k (n : Int) aC x a1).getD []) = [row] from by show [(spec_l11Full.f k (n : Int) aC x a1).getD []] = _; rw [HROW.out]; rfl]; exact HOE.out
    case measure =>
     have := HLT.out; (simp [intOf]); omega
def spec_GenusOf.f (k : Nat) (aD : Int) (aC : List (S57)) : Option (Int) := (spec_GraphOk.f k aD aC).bind fun aQ => (if aQ = true then (some (wrap64 ((wrap64 ((aC.length : Int) - aD)) + 1))) else (some (-1)))
theorem spec_GenusOf.mono : ∀ a0 a1 k, LeO (spec_GenusOf.f k a0 a1) (spec_GenusOf.f (k + 1) a0 a1) := by
 intro a0 a1 k; unfold spec_GenusOf.f; repeat' first | (with_reducible apply spec_GraphOk.mono) | (with_reducible exact LeO.refl _) | (with_reducible exact LeO.none _) | (with_reducible refine LeO.ite ?_ ?_) | (with_reducible refine LeO.bind ?_ (fun _ => ?_)) | apply spec_GraphOk.mono | exact LeO.none _ | refine LeO.ite ?_ ?_ | refine LeO.bind ?_ (fun _ => ?_)
theorem spec_GenusOf.calls (k : Nat) (aD : Int) (aH : Option Addr) (aG : Nat) (aC : List (S57)) (r : Int) (w : World) (hr0_1 : Kd.C k57 w aH aC.length aC) (hc0_1 : aC.length ≤ aG) (h : spec_GenusOf.f k aD aC = some r) :
  Calls Try.prog 71 #[.agg #[.int .i64 aD, .slice aH aC.length aG]] w fun e w' => e = .returned (.int .i64 r) ∧ Below w.heap.size w w' := by
 have hu25 := Try.underlying25; have bJ := zK_ hr0_1; have bE := zK_ hc0_1; clear hr0_1 hc0_1; have HB := zK_ (Below.refl w.heap.size w); have H : ((spec_GraphOk.f k aD aC).bind fun aQ => (if aQ = true then (some (wrap64 ((wrap64 ((aC.length : Int) - aD)) + 1))) else (some (-1)))) = some r := h; clear h; obtain ⟨aQ, A20, H⟩ := zO_ H; (try dsimp only at H); have A2 := zK_ A20; clear A20; by_cases c3 : aQ = true
 ·subst c3; rw [if_pos rfl] at H; obtain rfl := Option.some.inj H; go_enter Try.func71, Try.ntmps71; (go_wp2_with (first | ((with_reducible refine gate_dst (N := 1) rfl ?_); refine box_event ?hg (N := 1) ?hd (cs := #[.int .i64 aD, .slice aH aC.length aG]) (t := 25) ?hr ?_; (case hd => rfl); (case hg => rfl); (case hr => exact zz9); intro aE hg w4 hbox hb; have n_ := zA4 (below_step zz1 hb) hbox (zz10 : w.heap.size ≤ aE) (zz10 : w.heap.size ≤ aE); clear HB; obtain ⟨HB, aA, GW101, GE101⟩ := n_; clear hb hbox hg; have hU := zC20 aA; have g9 := zC21 aA; have g8 := blk_frozen aA.out 0; have g7 := blk_frozen aA.out 1) | ((with_reducible refine gate_callee (f := 55) rfl ?_); refine goesL_ (some 4) rfl rfl Try.func55 (by kernel_rfl) rfl #[.agg #[.int .i64 aD, .slice aH aC.length aG]] rfl zz3 ?_; (with_reducible refine (spec_GraphOk.calls k aD _ _ aC true _ ?side1 ?side2 A2.out).mono ?_); (case side1 => exact zz6); (case side2 => exact bE.out); rintro e w6 ⟨rfl, hb⟩; refine ⟨_, rfl, ?_⟩; have n_ := zA2 (blk_below (g := aE) (o := .cells #[.int .i64 aD, .slice aH aC.length aG] 25 (0, 0)) zz2 hb) (below_step zz0 hb); clear aA HB; obtain ⟨aA, HB⟩ := n_; clear hb; have eO := zC20 aA; have eM := zC21 aA; have eI := blk_frozen aA.out 0; have eH := blk_frozen aA.out 1))); go_ret; exact ⟨zz7, zz0⟩
 replace c3 := Bool.eq_false_iff.mpr c3; subst c3; rw [if_neg (show ¬ (false = true) by decide)] at H; obtain rfl := Option.some.inj H; go_enter Try.func71, Try.ntmps71; (go_wp2_with (first | ((with_reducible refine gate_dst (N := 1) rfl ?_); refine box_event ?hg (N := 1) ?hd (cs := #[.int .i64 aD, .slice aH aC.length aG]) (t := 25) ?hr ?_; (case hd => rfl); (case hg => rfl); (case hr => exact zz9); intro aE hg w8 hbox hb; have n_ := zA4 (below_step zz1 hb) hbox (zz10 : w.heap.size ≤ aE) (zz10 : w.heap.size ≤ aE); clear HB; obtain ⟨HB, aA, GW101, GE101⟩ := n_; clear hb hbox hg; have fD := zC20 aA; have fC := zC21 aA; have fB := blk_frozen aA.out 0; have fA := blk_frozen aA.out 1) | ((with_reducible refine gate_callee (f := 55) rfl ?_); refine goesL_ (some 4) rfl rfl Try.func55 (by kernel_rfl) rfl #[.agg #[.int .i64 aD, .slice aH aC.length aG]] rfl zz3 ?_; (with_reducible refine (spec_GraphOk.calls k aD _ _ aC false _ ?side1 ?side2 A2.out).mono ?_); (case side1 => exact zz6); (case side2 => exact bE.out); rintro e w10 ⟨rfl, hb⟩; refine ⟨_, rfl, ?_⟩; have n_ := zA2 (blk_below (g := aE) (o := .cells #[.int .i64 aD, .slice aH aC.length aG] 25 (0, 0)) zz2 hb) (below_step zz0 hb); clear aA HB; obtain ⟨aA, HB⟩ := n_; clear hb))); go_ret; exact ⟨zz7, zz0⟩
def spec_LevelCounts.l0 : Nat → Int → List Int → List (List Int) → Int → Int → Int → List (S57) → Option (List Int × Bool)
 | 0, _, _, _, _, _, _, _ => none
 | k + 1, x1, x8, m8, nN, mF, aJ, aI => if mF < nN then (if 0 ≤ mF then (if mF < (m8.length : Int) then ((spec_DegreeOf.f k (rd_L3 m8 mF)).bind fun dT => ((spec_Valence.f k aJ aI x1).bind fun dF => (if 0 ≤ (wrap64 ((wrap64 (dT + dF)) - (aI.length : Int))) then (if (wrap64 ((wrap64 (dT + dF)) - (aI.length : Int))) < (x8.length : Int) then (spec_LevelCounts.l0 k x1 (x8.set ((wrap64 ((wrap64 (dT + dF)) - (aI.length : Int))) : Int).toNat (wrap64 ((rd x8 (wrap64 ((wrap64 (dT + dF)) - (aI.length : Int)))) + 1))) m8 nN (wrap64 (mF + 1)) aJ aI) else (none)) else (none)))) else (none)) else (none)) else (some (x8, true))
def spec_LevelCounts.f (k : Nat) (aD : Int) (aC : List (S57)) (a1 : Int) : Option (List Int × Bool) := (spec_RecurrentPiles.f k aD aC a1).bind fun eU => (if eU.2 = true then ((spec_GenusOf.f k aD aC).bind fun cK => (if 0 ≤ (wrap64 (cK + 1)) then (if (wrap64 (cK + 1) : Int).toNat ≤ 35184372088832 then (spec_LevelCounts.l0 k a1 (List.replicate (wrap64 (cK + 1) : Int).toNat 0) eU.1 (eU.1.length : Int) 0 aD aC) else (none)) else (none))) else (some (([] : List Int), false)))
theorem spec_LevelCounts.mono_l : ∀ k, (∀ y0 y1 y2 y3 y4 y5 y6, LeO (spec_LevelCounts.l0 k y0 y1 y2 y3 y4 y5 y6) (spec_LevelCounts.l0 (k + 1) y0 y1 y2 y3 y4 y5 y6))
 | 0 => fun _ _ _ _ _ _ _ r h => by simp [spec_LevelCounts.l0] at h
 | k + 1 => by
  have ih0 := spec_LevelCounts.mono_l k
  ·intro y0 y1 y2 y3 y4 y5 y6
   unfold spec_LevelCounts.l0
   exact zm11
theorem spec_LevelCounts.mono : ∀ a0 a1 a2 k, LeO (spec_LevelCounts.f k a0 a1 a2) (spec_LevelCounts.f (k + 1) a0 a1 a2) := by
 intro a0 a1 a2 k; have ih0 := spec_LevelCounts.mono_l k; unfold spec_LevelCounts.f; exact zm11
def spec_LevelCounts.T8 : Bool × List (List Nat × List Nat) := (true, [([], []), ([0], [0]), ([], []), ([], []), ([2, 3, 1], [2, 3]), ([1, 4], [1, 4]), ([], []), ([6], [6]), ([7], [7]), ([5, 8], [5, 8]), ([9, 4, 0, 1, 2, 3, 4, 5, 6, 7, 8, 9], [9])])
def spec_LevelCounts.B8 : List Nat := [0, 1, 0, 0, 15, 31, 0, 64, 192, 511, 1023]
theorem spec_LevelCounts.tab8 : rtab .any (opsOf Try.f28 8) = spec_LevelCounts.T8 := by kernel_rfl
theorem spec_LevelCounts.bits8 : waitsOk spec_LevelCounts.T8.2 spec_LevelCounts.B8 = true := by kernel_rfl
theorem spec_LevelCounts.calls (k : Nat) (aD : Int) (aH : Option Addr) (aG : Nat) (aC : List (S57)) (a1 : Int) (r1 : List Int) (r2 : Bool) (w : World) (hr0_1 : Kd.C k57 w aH aC.length aC) (hc0_1 : aC.length ≤ aG) (h : spec_LevelCounts.f k aD aC a1 = some (r1, r2)) :
  Calls Try.prog 28 #[.agg #[.int .i64 aD, .slice aH aC.length aG], .int .i64 a1] w fun e w' => ∃ v0_ : Value, e = .returned (.tuple #[v0_, .bool r2]) ∧ Kd.R (Kd.int .i64) 3 w' w.heap.size (fun _ => True) v0_ r1 ∧ Below w.heap.size w w' := by
 have hu25 := Try.underlying25; have bJ := zK_ hr0_1; have bE := zK_ hc0_1; clear hr0_1 hc0_1; have HB := zK_ (Below.refl w.heap.size w); have H : ((spec_RecurrentPiles.f k aD aC a1).bind fun eU => (if eU.2 = true then ((spec_GenusOf.f k aD aC).bind fun cK => (if 0 ≤ (wrap64 (cK + 1)) then (if (wrap64 (cK + 1) : Int).toNat ≤ 35184372088832 then (spec_LevelCounts.l0 k a1 (List.replicate (wrap64 (cK + 1) : Int).toNat 0) eU.1 (eU.1.length : Int) 0 aD aC) else (none)) else (none))) else (some (([] : List Int), false)))) = some (r1, r2) := h; clear h; replace H := zO_ H; obtain ⟨⟨aQ, dA⟩, A30, H⟩ := H; dsimp only at H; have A3 := zK_ A30; clear A30; by_cases c4 : dA = true; rotate_left
 ·replace c4 := Bool.eq_false_iff.mpr c4; subst c4; rw [if_neg (show ¬ (false = true) by decide)] at H; simp only [Option.some.injEq, Prod.mk.injEq] at H; obtain ⟨rfl, rfl⟩ := H; go_enter Try.func28, Try.ntmps28; (go_wp2_with (first | ((with_reducible refine gate_dst (N := 2) rfl ?_); refine box_event ?hg (N := 2) ?hd (cs := #[.int .i64 aD, .slice aH aC.length aG]) (t := 25) ?hr ?_; (case hd => rfl); (case hg => rfl); (case hr => exact zz9); intro aE hg w31 hbox hb; have n_ := zA4 (below_step zz1 hb) hbox (zz10 : w.heap.size ≤ aE) (zz10 : w.heap.size ≤ aE); clear HB; obtain ⟨HB, aA, GW101, GE101⟩ := n_; clear hb hbox hg; have rS := zC20 aA; have rR := zC21 aA; have rK := blk_frozen aA.out 0; have rJ := blk_frozen aA.out 1) | ((with_reducible refine gate_callee (f := 26) rfl ?_); refine goesL_ (some 15) rfl rfl Try.func26 (by kernel_rfl) rfl #[.agg #[.int .i64 aD, .slice aH aC.length aG], .int .i64 a1] rfl zz3 ?_; (with_reducible refine (spec_RecurrentPiles.calls k aD _ _ aC a1 aQ false _ ?side1 ?side2 A3.out).mono ?_); (case side1 => exact zz6); (case side2 => exact bE.out); rintro e w33 ⟨v103, rfl, ho0, hb⟩; refine ⟨_, rfl, ?_⟩; have n_ := zA3 (Kd.S_lower ho0 (below_size zz0)) (blk_below (g := aE) (o := .cells #[.int .i64 aD, .slice aH aC.length aG] 25 (0, 0)) zz2 hb) (below_step zz0 hb); clear aA HB; obtain ⟨bT, aA, HB⟩ := n_; clear ho0 hb))); (go_ret2); exact ⟨_, zz7, zz43, zz0⟩
 subst c4; rw [if_pos rfl] at H; obtain ⟨cK, A50, H⟩ := zO_ H; (try dsimp only at H); have A5 := zK_ A50; clear A50; obtain ⟨j7, iV⟩ : ∃ j_ : Int, (wrap64 (cK + 1)) = j_ := ⟨_, rfl⟩; (replace H : (if 0 ≤ (j7) then (if (j7 : Int).toNat ≤ 35184372088832 then (spec_LevelCounts.l0 k a1 (List.replicate (j7 : Int).toNat 0) aQ (aQ.length : Int) 0 aD aC) else (none)) else (none)) = some (r1, r2) := by first | (rw [iV] at H; exact H) | (simp only [iV] at H ⊢; exact H)); (try rw [iV] at A3); (try rw [iV] at A5); have uF : (IntKind.i64.wrap (cK + 1)) = j7 := (i64_w _).trans iV; by_cases c7 : 0 ≤ (j7); rotate_left
 ·rw [if_neg c7] at H; exact absurd H (by simp)
 rw [if_pos c7] at H; have d4 := eq_true c7; have lA : decide (0 ≤ (j7)) = true := decide_eq_true c7; clear c7; by_cases c8 : (j7 : Int).toNat ≤ 35184372088832; rotate_left
 ·rw [if_neg c8] at H; exact absurd H (by simp)
 rw [if_pos c8] at H; have fL := eq_true c8; have pD : decide ((j7 : Int).toNat ≤ 35184372088832) = true := decide_eq_true c8; clear c8; obtain ⟨hY, hy_⟩ : ∃ y_ : List Int, y_ = (List.replicate (j7 : Int).toNat 0) := ⟨_, rfl⟩; (replace H : (spec_LevelCounts.l0 k a1 hY aQ (aQ.length : Int) 0 aD aC) = some (r1, r2) := zzY); have iG := zK_ hy_; clear hy_; have H' := zK_ H; clear H; go_enter Try.func28, Try.ntmps28; (go_wp2_with (first | ((with_reducible refine gate_dst (N := 2) rfl ?_); refine box_event ?hg (N := 2) ?hd (cs := #[.int .i64 aD, .slice aH aC.length aG]) (t := 25) ?hr ?_; (case hd => rfl); (case hg => rfl); (case hr => exact zz9); intro aE hg w9 hbox hb; have n_ := zA4 (below_step zz1 hb) hbox (zz10 : w.heap.size ≤ aE) (zz10 : w.heap.size ≤ aE); clear HB; obtain ⟨HB, aA, GW101, GE101⟩ := n_; clear hb hbox hg; have cH := zC20 aA; have cG := zC21 aA; have cE := blk_frozen aA.out 0; have cC := blk_frozen aA.out 1) | ((with_reducible refine gate_callee (f := 26) rfl ?_); refine goesL_ (some 15) rfl rfl Try.func26 (by kernel_rfl) rfl #[.agg #[.int .i64 aD, .slice aH aC.length aG], .int .i64 a1] rfl zz3 ?_; (with_reducible refine (spec_RecurrentPiles.calls k aD _ _ aC a1 aQ true _ ?side1 ?side2 A3.out).mono ?_); (case side1 => exact zz6); (case side2 => exact bE.out); rintro e w11 ⟨v103, rfl, ho0, hb⟩; refine ⟨_, rfl, ?_⟩; have n_ := zA3 (Kd.S_lower ho0 (below_size zz0)) (blk_below (g := aE) (o := .cells #[.int .i64 aD, .slice aH aC.length aG] 25 (0, 0)) zz2 hb) (below_step zz0 hb); clear aA HB; obtain ⟨bT, aA, HB⟩ := n_; clear ho0 hb; have fT := zC20 aA; have fS := zC21 aA; have fR := blk_frozen aA.out 0; have fQ := blk_frozen aA.out 1) | ((with_reducible refine gate_callee (f := 71) rfl ?_); refine goesL_ (some 21) rfl rfl Try.func71 (by kernel_rfl) rfl #[.agg #[.int .i64 aD, .slice aH aC.length aG]] rfl zz3 ?_; (with_reducible refine (spec_GenusOf.calls k aD _ _ aC cK _ ?side1 ?side2 A5.out).mono ?_); (case side1 => exact zz6); (case side2 => exact bE.out); rintro e w13 ⟨rfl, hb⟩; refine ⟨_, rfl, ?_⟩; have n_ := zA3 (Kd.S_below (by (with_reducible repeat (first | apply Kd.S_alloc | apply Kd.S_drewN | apply Kd.S_drew)); exact bT.out) hb) (blk_below (g := aE) (o := .cells #[.int .i64 aD, .slice aH aC.length aG] 25 (0, 0)) zz2 hb) (below_step zz0 hb); clear bT aA HB; obtain ⟨bT, aA, HB⟩ := n_; clear hb) | ((with_reducible refine gate_dst (N := 23) rfl ?_); refine Kd.R_make (Kd.int .i64) _ 3 rfl (N := 23) rfl 26 _ _ rfl j7 rfl rfl Try.underlying26 (.int .i64 0) 8 info3 rfl (by decide) (by omega) 0 (ok := fun _ => True) (okp := fun _ => True) rfl (fun _ hk => hk) trivial (of_decide_eq_true zz4) (Nat.le_trans (Nat.mul_le_mul_right _ (of_decide_eq_true zz4 : j7.toNat ≤ 35184372088832)) (by omega)) (Below.refl _ _) (Nat.le_refl _) ?_; intro v108 w14 ho15 hb hg_ hnew_; clear hg_ hnew_; (first | rw [← iG.out] at ho15 | (simp only [Int.reduceToNat] at ho15; rw [← iG.out] at ho15)); have n_ := zA4 (Kd.S_elder' (by (with_reducible repeat (first | apply Kd.S_alloc | apply Kd.S_drewN | apply Kd.S_drew)); exact bT.out) (Kd.R_base ho15) hb) (Kd.R_lower ho15 (below_size zz0)) (blk_below (g := aE) (o := .cells #[.int .i64 aD, .slice aH aC.length aG] 25 (0, 0)) zz2 hb) (below_step zz0 hb); clear bT aA HB; obtain ⟨bT, eB, aA, HB⟩ := n_; clear hb ho15; obtain ⟨Ao16, co16, tF⟩ := Kd.S_slice bT.out; subst tF))); (go_loopg [26] k (fun kq v26 w' => ∃ (bD : List Int) (f5 : Int), v26 = .int .i64 f5 ∧ Aside0 (spec_LevelCounts.l0 kq a1 bD aQ (aQ.length : Int) f5 aD aC = some (r1, r2)) ∧ Aside0 (kq ≤ k) ∧ Aside0 (Kd.R (Kd.int .i64) 3 w' w.heap.size (fun _ => True) v108 bD) ∧ Aside0 (Kd.S (Kd.slice 3 (Kd.int .i64)) 26 w' w.heap.size (fun k_ => some k_ ≠ (v108 : Value).ownBlock) (.slice Ao16 aQ.length co16) aQ) ∧ Aside0 (w'.heap[aE]? = some (.cells #[.int .i64 aD, (.slice aH aC.length aG)] 25 (0, 0))) ∧ Aside0 (Below w.heap.size w w'))); case atStart => exact ⟨(hY), (0), zz5, H', ⟨Nat.le_refl _⟩, ⟨by (with_reducible repeat (first | apply Kd.R_alloc | apply Kd.R_drewN | apply Kd.R_drew)); exact eB.out⟩, ⟨by (with_reducible repeat (first | apply Kd.S_alloc | apply Kd.S_drewN | apply Kd.S_drew)); exact Kd.S_mono bT.out (fun _ hk => hk.2)⟩, ⟨zz2⟩, ⟨zz0⟩⟩
 case round =>
  clear H'; (try clear c2); (try clear p2); (try clear c4); (try clear p6); (try clear c7); (try clear d4); (try clear lA); (try clear c8); (try clear fL); (try clear pD); (try clear cH); (try clear cG); (try clear fT); (try clear fS); (try clear cE); (try clear cC); (try clear fR); (try clear fQ); obtain ⟨bD, f5, rfl, HA, HK1, cS, g5, aA, HB⟩ := hrel
  cases gk with
  | zero => exact absurd HA.out (by simp [spec_LevelCounts.l0])
  | succ k1 =>
   have H := HA.out; clear HA; simp only [spec_LevelCounts.l0] at H; by_cases c17 : f5 < (aQ.length : Int); rotate_left
   ·rw [if_neg c17] at H; have gN := decide_eq_false c17; (try (have gM := gN; first | rw [gB] at gM | rw [← gB] at gM)); clear c17; simp only [Option.some.injEq, Prod.mk.injEq] at H; obtain ⟨rfl, rfl⟩ := H; go_wp2; (go_ret2); exact ⟨_, by first | rfl | (simp [errW_none, errW_some] <;> rfl) | (simp only [← iV]; first | rfl | (simp [errW_none, errW_some] <;> rfl)) | (simp [*, errW_none, errW_some] <;> rfl), by (with_reducible repeat (first | apply Kd.R_alloc | apply Kd.R_drewN | apply Kd.R_drew)); exact cS.out, zz0⟩
   rw [if_pos c17] at H; have gN := decide_eq_true c17; clear c17; by_cases c18 : 0 ≤ f5; rotate_left
   ·rw [if_neg c18] at H; exact absurd H (by simp)
   rw [if_pos c18] at H; have iW := decide_eq_true c18; clear c18; by_cases c19 : f5 < (aQ.length : Int); rotate_left
   ·rw [if_neg c19] at H; exact absurd H (by simp)
   rw [if_pos c19] at H; have mX := decide_eq_true c19; clear c19; obtain ⟨dT, A200, H⟩ := zO_ H; (try dsimp only at H); have A20 := zK_ A200; clear A200; obtain ⟨dF, A210, H⟩ := zO_ H; (try dsimp only at H); have A21 := zK_ A210; clear A210; obtain ⟨dD, fY⟩ : ∃ j_ : Int, (wrap64 ((wrap64 (dT + dF)) - (aC.length : Int))) = j_ := ⟨_, rfl⟩; (replace H : (if 0 ≤ (dD) then (if (dD) < (bD.length : Int) then (spec_LevelCounts.l0 k1 a1 (bD.set ((dD) : Int).toNat (wrap64 ((rd bD (dD)) + 1))) aQ (aQ.length : Int) (wrap64 (f5 + 1)) aD aC) else (none)) else (none)) = some (r1, r2) := by first | (rw [fY] at H; exact H) | (simp only [fY] at H ⊢; exact H)); (try rw [fY] at A20); (try rw [fY] at A21); have sV : (IntKind.i64.wrap ((wrap64 (dT + dF)) - (aC.length : Int))) = dD := (i64_w _).trans fY; by_cases c23 : 0 ≤ (dD); rotate_left
   ·rw [if_neg c23] at H; exact absurd H (by simp)
   rw [if_pos c23] at H; have oX := decide_eq_true c23; clear c23; by_cases c24 : (dD) < (bD.length : Int); rotate_left
   ·rw [if_neg c24] at H; exact absurd H (by simp)
   rw [if_pos c24] at H; have mV := decide_eq_true c24; clear c24; obtain ⟨lJ, hy_⟩ : ∃ y_ : List Int, y_ = (bD.set ((dD) : Int).toNat (wrap64 ((rd bD (dD)) + 1))) := ⟨_, rfl⟩; (replace H : (spec_LevelCounts.l0 k1 a1 lJ aQ (aQ.length : Int) (wrap64 (f5 + 1)) aD aC) = some (r1, r2) := zzY); have k7 := zK_ hy_; clear hy_; have H' := zK_ H; clear H; have p110 : 0 ≤ (f5 : Int) := of_decide_eq_true zz4; have q110 : f5 < (aQ.length : Int) := of_decide_eq_true zz4; obtain ⟨sG, A110_0, c110_0, e110, lT, gB, hi110_0⟩ := at_L3 (Kd.S_reads' g5.out).2.2 f5 p110 q110; cases e110; obtain ⟨ce110, hce110, hMe110, hcc110⟩ := Kd.S_get g5.out [] f5 p110 (by first | exact q110 | exact of_decide_eq_true zz4 | (have e_ := (Kd.S_reads' g5.out).1; omega)); obtain ⟨ve110_0, rfl, ge110_0⟩ := hMe110; have hv110_0 := hcc110 0 _ rfl; rw [Nat.add_zero, show ((Kd.slice 3 (Kd.int .i64))).sz = 1 from rfl, Nat.mul_one] at hv110_0; replace hv110_0 := Option.some.inj (hv110_0.symm.trans lT); rw [hv110_0] at ge110_0; have HL110_0 := zK_ (show Kd.R (Kd.int .i64) 3 _ _ _ _ (rd_L3 aQ f5) from ge110_0); clear hv110_0 ge110_0; clear hcc110 hce110; have HR110_0 := zK_ hi110_0; have HC110_0 := zK_ gB; clear hi110_0 gB; replace p110 := eq_true p110; replace q110 := eq_true q110; (try go_wp2); have n_ := zA6 (Kd.R_drew cS.out) (Kd.S_drew g5.out) (Kd.R_drew HL110_0.out) (blk_drew aA.out) (Kd.C_drew HR110_0.out) (below_drew1 HB.out); clear cS g5 HL110_0 aA HR110_0 HB; obtain ⟨cS, g5, HL110_0, aA, HR110_0, HB⟩ := n_; refine start_ (n := 11) (S := fun w' => w'.cell? ⟨aE, 0, none⟩ = some (.int .i64 aD) ∧ w'.cell? ⟨aE, 1, none⟩ = some (.slice aH aC.length aG)) (ds := []) (zM 11 0) (by kernel_rfl) rfl rfl ⟨(blk_cell aA.out 0).trans rfl, (blk_cell aA.out 1).trans rfl⟩ (fun hHeld => ?_); refine with_tabW spec_LevelCounts.tab8 spec_LevelCounts.bits8 (fun HT_ HW_ => ?_); generalize wr.drew = w26 at cS g5 HL110_0 aA HR110_0 HB hHeld ⊢; refine zQ 0 30 (zM 11 1) ?_
   refine zQ 3 33 (zM 11 9) ?_
   refine zQ 6 36 (zM 11 73) ?_
   refine take_ (i := 2) (N := some 32) (v := ?_) (a' := ?_) (zM 11 77) rfl rfl (take_ofW HT_.out HW_.out (by kernel_rfl)) (fun _ _ _ h => h) (Or.inl ⟨by rfl, ?_⟩) hHeld ?_ ?_; rotate_left
   ·rintro w' ⟨s0, s1⟩; exact zzT
   rotate_left
   ·exact zzS
   refine take_ (i := 7) (N := some 37) (v := ?_) (a' := ?_) (zM 11 205) rfl rfl (take_ofW HT_.out HW_.out (by kernel_rfl)) (fun _ _ _ h => h) (Or.inl ⟨by rfl, ?_⟩) hHeld ?_ ?_; rotate_left
   ·rintro w' ⟨s0, s1⟩; exact zzT
   rotate_left
   ·exact zzS
   refine zQ 8 38 (zM 11 461) ?_
   refine one_ (i := 1) (N := some 31) (zM 11 463) rfl rfl (one_of HT_.out (by kernel_rfl)) (by decide) (fun K hK => ?_); refine goes_ Try.func72 (by kernel_rfl) rfl #[.slice A110_0 (rd_L3 aQ f5).length c110_0] (by rfl) rfl rfl zz3 ?_; (with_reducible refine (spec_DegreeOf.calls k1 _ _ (rd_L3 aQ f5) dT _ ?side1 ?side2 A20.out).mono ?_); (case side1 => repeat (first | exact zz42 | (with_reducible refine Kd.C_alloc ?_ _) | (with_reducible refine Kd.C_drewN ?_ _) | (with_reducible refine Kd.C_drew ?_))); (case side2 => exact HC110_0.out); rintro e w' ⟨rfl, ⟨nd, rfl⟩⟩; refine ⟨_, rfl, ?_⟩; refine hK.out _ _ ⟨(blk_cell aA.out 0).trans rfl, (blk_cell aA.out 1).trans rfl⟩ (fun hHeld => ?_); clear hK K; refine norm_ (a' := ?_) ?_ ?_; rotate_left
   ·show Act.put _ (some 31) _ = _; exact zzS
   refine one_ (i := 4) (N := some 34) (zM 11 479) rfl rfl (one_of HT_.out (by kernel_rfl)) (by decide) (fun K hK => ?_); refine goes_ Try.func73 (by kernel_rfl) rfl #[.agg #[.int .i64 aD, .slice aH aC.length aG], .int .i64 a1] (by rfl) rfl rfl zz3 ?_; (with_reducible refine (spec_Valence.calls k1 aD _ _ aC a1 dF _ ?side1 ?side2 A21.out).mono ?_); (case side1 => repeat (first | exact (Kd.C_below bJ.out zz0) | (with_reducible refine Kd.C_alloc ?_ _) | (with_reducible refine Kd.C_drewN ?_ _) | (with_reducible refine Kd.C_drew ?_))); (case side2 => exact bE.out); rintro e w27 ⟨rfl, hb⟩; refine ⟨_, rfl, ?_⟩; have n_ := zA6 (Kd.R_below (by (with_reducible repeat (first | apply Kd.R_alloc | apply Kd.R_drewN | apply Kd.R_drew)); exact cS.out) hb) (Kd.S_below (by (with_reducible repeat (first | apply Kd.S_alloc | apply Kd.S_drewN | apply Kd.S_drew)); exact g5.out) hb) (Kd.R_below (by (with_reducible repeat (first | apply Kd.R_alloc | apply Kd.R_drewN | apply Kd.R_drew)); exact HL110_0.out) hb) (blk_below (g := aE) (o := .cells #[.int .i64 aD, .slice aH aC.length aG] 25 (0, 0)) zz2 hb) (Kd.C_below zz42 hb) (below_step zz0 hb); clear cS g5 HL110_0 aA HR110_0 HB; obtain ⟨cS, g5, HL110_0, aA, HR110_0, HB⟩ := n_; clear hb; refine hK.out _ _ ⟨(blk_cell aA.out 0).trans rfl, (blk_cell aA.out 1).trans rfl⟩ (fun hHeld => ?_); clear hK K; refine norm_ (a' := ?_) ?_ ?_; rotate_left
   ·show Act.put _ (some 34) _ = _; exact zzS
   refine zQ 5 35 (zM 11 511) ?_
   refine zQ 9 39 (zM 11 1023) ?_
   refine zQ 10 11 (zM 11 2047) ?_
   refine done_ (done_of HT_.out (by kernel_rfl)) ?_; obtain ⟨Ao28, co28, pC⟩ := Kd.R_slice cS.out; subst pC; have p113 : 0 ≤ ((dD) : Int) := of_decide_eq_true zz4; have q113 : (dD) < (bD.length : Int) := of_decide_eq_true zz4; obtain ⟨lF, e113, dW⟩ := Kd.at_int (Kd.R_reads' cS.out).2.2 (dD) p113 q113; cases e113; replace p113 := eq_true p113; replace q113 := eq_true q113; have p25 : 0 ≤ ((dD) : Int) := of_decide_eq_true zz4; have q25 : ((dD) : Int) < ((bD.length : Int) : Int) := of_decide_eq_true zz4; obtain ⟨go25, co25, nI, qH, gl25, cl25, HG25⟩ := Kd.R_form cS.out (by omega); (first | cases nI | (injection nI with ea_ en_ ec_; (first | subst ea_ | (injection ea_ with ea_; subst ea_)); subst ec_; clear en_)); have tQ := zK_ qH; have BE := zK_ HG25; clear qH gl25 HG25; (first | simp only [add_plain] at dW | skip); obtain ⟨sS, sY⟩ := Kd.R_celln 0 cS.out ((dD) : Int) p25 q25; replace p25 := eq_true p25; replace q25 := eq_true q25; obtain ⟨hy29_, hz29_⟩ := Kd.R_celln 0 cS.out ((dD) : Int) (of_decide_eq_true zz4) (of_decide_eq_true zz4); have nK := Kd.R_putg cS.out ((dD) : Int) (wrap64 ((rd bD (dD)) + 1)); (try go_wp2_with (first | ((with_reducible refine gate_store (t := 3) (p := 45) rfl ?_); refine store_event (t := 3) (p := 45) (v := ?vo_w30) (w1 := (w27.setCell ⟨go25, ((dD) : Int).toNat, none⟩ (.int .i64 (wrap64 ((rd bD (dD)) + 1))))) ?hg ?ho ?hn ?hr ?_; (case ho => rfl); (case hg => rfl); (case hn => rfl); (case hr => exact zz9); intro w30 hw; have hg : w27.grownBy w30 (some go25) := (by rw [hw]; exact nK.2); have hp_ : Kd.R (Kd.int .i64) 3 w30 w.heap.size (fun _ => True) (.slice (some ⟨go25, 0, none⟩) bD.length co28) lJ := (by rw [hw, k7.out]; exact nK.1); clear nK; have n_ := zA5 hp_ (Kd.S_after (v := (.slice (some ⟨go25, 0, none⟩) bD.length co28)) (v1 := (.slice (some ⟨go25, 0, none⟩) bD.length co28)) (ok := (fun _ => True)) (by (with_reducible repeat (first | apply Kd.S_alloc | apply Kd.S_drewN | apply Kd.S_drew)); exact Kd.S_mono g5.out (fun _ hk => ⟨trivial, hk⟩)) hg (.inl rfl)) (blk_grown (g := aE) (o := .cells #[.int .i64 aD, .slice aH aC.length aG] 25 (0, 0)) zz2 hg (Kd.R_ne cS.out aA.out (by decide))) (Kd.R_after (v := (.slice (some ⟨go25, 0, none⟩) bD.length co28)) (v1 := (.slice (some ⟨go25, 0, none⟩) bD.length co28)) (ok := (fun k_ => some k_ ≠ (.slice (some sG) aQ.length co16 : Value).ownBlock)) (by (with_reducible repeat (first | apply Kd.R_alloc | apply Kd.R_drewN | apply Kd.R_drew)); exact Kd.R_mono HL110_0.out (fun _ hk => ⟨hk.2, hk.1⟩)) hg (.inl rfl)) (by rw [hw]; exact below_set (HB.out) tQ.out : Below w.heap.size w w30); clear cS g5 aA HL110_0 HB; obtain ⟨cS, g5, aA, HL110_0, HB⟩ := n_; clear hg hw hp_))); go_roundg k1; (case measure => have := HK1.out; omega); case rel => exact ⟨(lJ), (wrap64 (f5 + 1)), zz5, H', ⟨zz36⟩, ⟨by (with_reducible repeat (first | apply Kd.R_alloc | apply Kd.R_drewN | apply Kd.R_drew)); exact cS.out⟩, ⟨by (with_reducible repeat (first | apply Kd.S_alloc | apply Kd.S_drewN | apply Kd.S_drew)); exact Kd.S_mono g5.out (fun _ hk => hk.2)⟩, ⟨zz2⟩, ⟨zz0⟩⟩
mutual
def impl_Valence.j0 : Nat → Int → Bool → Int → List (S57) → Option (Int)
 | 0, _, _, _, _ => none
 | k + 1, x1, jG, aJ, aI => if jG = true then (some 0) else (impl_Valence.l0 k x1 0 aI (aI.length : Int) 0)
def impl_Valence.l0 : Nat → Int → Int → List (S57) → Int → Int → Option (Int)
 | 0, _, _, _, _, _ => none
 | k + 1, x1, x5, iQ, iP, nB => if nB < iP then (if 0 ≤ nB then (if nB < (iQ.length : Int) then (if ((rd_T57 iQ nB).f0) = x1 then (impl_Valence.l0 k x1 (wrap64 (x5 + 1)) iQ iP (wrap64 (nB + 1))) else (if ((rd_T57 iQ nB).f1) = x1 then (impl_Valence.l0 k x1 (wrap64 (x5 + 1)) iQ iP (wrap64 (nB + 1))) else (impl_Valence.l0 k x1 x5 iQ iP (wrap64 (nB + 1))))) else (none)) else (none)) else (some x5)
end
def impl_Valence.f (k : Nat) (aD : Int) (aC : List (S57)) (a1 : Int) : Option (Int) := if a1 < 0 then (impl_Valence.j0 k a1 true aD aC) else (impl_Valence.j0 k a1 (decide (a1 ≥ aD)) aD aC)
theorem impl_Valence.mono_l : ∀ k, (∀ y0 y1 y2 y3, LeO (impl_Valence.j0 k y0 y1 y2 y3) (impl_Valence.j0 (k + 1) y0 y1 y2 y3)) ∧ (∀ y0 y1 y2 y3 y4, LeO (impl_Valence.l0 k y0 y1 y2 y3 y4) (impl_Valence.l0 (k + 1) y0 y1 y2 y3 y4))
 | 0 => ⟨fun _ _ _ _ r h => by simp [impl_Valence.j0] at h, fun _ _ _ _ _ r h => by simp [impl_Valence.l0] at h⟩
 | k + 1 => by
  obtain ⟨ih0, ih1⟩ := impl_Valence.mono_l k
  refine ⟨?_, ?_⟩
  ·intro y0 y1 y2 y3
   unfold impl_Valence.j0
   exact zm1
  ·intro y0 y1 y2 y3 y4
   unfold impl_Valence.l0
   exact zm1
theorem impl_Valence.mono : ∀ a0 a1 a2 k, LeO (impl_Valence.f k a0 a1 a2) (impl_Valence.f (k + 1) a0 a1 a2) := by
 intro a0 a1 a2 k; obtain ⟨ih0, ih1⟩ := impl_Valence.mono_l k; unfold impl_Valence.f; exact zm1
theorem impl_Valence.calls (k : Nat) (aD : Int) (aH : Option Addr) (aG : Nat) (aC : List (S57)) (a1 : Int) (r : Int) (w : World) (hr0_1 : Kd.C k57 w aH aC.length aC) (hc0_1 : aC.length ≤ aG) (h : impl_Valence.f k aD aC a1 = some r) :
  Calls Try.prog 75 #[.agg #[.int .i64 aD, .slice aH aC.length aG], .int .i64 a1] w fun e w' => e = .returned (.int .i64 r) ∧ Below w.heap.size w w' := by
 have hu25 := Try.underlying25; have hu57 := Try.underlying57; have bJ := zK_ hr0_1; have bE := zK_ hc0_1; clear hr0_1 hc0_1; have HB := zK_ (Below.refl w.heap.size w); have H : (if a1 < 0 then (impl_Valence.j0 k a1 true aD aC) else (impl_Valence.j0 k a1 (decide (a1 ≥ aD)) aD aC)) = some r := h; clear h; have HC3 := zK_ H; clear H; go_enter Try.func75, Try.ntmps75; (go_upto_region 1 with (first | ((with_reducible refine gate_dst (N := 2) rfl ?_); refine box_event ?hg (N := 2) ?hd (cs := #[.int .i64 aD, .slice aH aC.length aG]) (t := 25) ?hr ?_; (case hd => rfl); (case hg => rfl); (case hr => exact zz9); intro aE hg w4 hbox hb; have n_ := zA4 (below_step zz1 hb) hbox (zz10 : w.heap.size ≤ aE) (zz10 : w.heap.size ≤ aE); clear HB; obtain ⟨HB, aA, GW101, GE101⟩ := n_; clear hb hbox hg))); (try simp only [Act.put, List.setIfInBounds_toArray, List.set_cons_zero, List.set_cons_succ]); go_cut [15] (fun v15 wc => ∃ (kq : Nat) (nQ : Bool), v15 = .bool nQ ∧ Aside0 (impl_Valence.j0 kq a1 nQ aD aC = some r) ∧ Aside0 (kq ≤ k) ∧ Aside0 (wc.heap[aE]? = some (.cells #[.int .i64 aD, (.slice aH aC.length aG)] 25 (0, 0))) ∧ Aside0 (Below w.heap.size w wc))
 case first =>
  have H := HC3.out; clear HC3; by_cases c5 : a1 < 0
  ·rw [if_pos c5] at H; have dS := decide_eq_true c5; clear c5; (first | rw [dS] | (simp only [i64_w, i32_w]; rw [dS]) | skip); have H' := zK_ H; clear H; go_wp2; (go_meet); case rel => exact ⟨_, (true), zz5, H', ⟨by first | omega | exact Nat.le_refl _⟩, ⟨zz2⟩, ⟨zz0⟩⟩
  rw [if_neg c5] at H; have dS := decide_eq_false c5; clear c5; (first | rw [dS] | (simp only [i64_w, i32_w]; rw [dS]) | skip); have H' := zK_ H; clear H; have eR := zC20 aA; have eQ := zC21 aA; have eK := blk_frozen aA.out 0; have eJ := blk_frozen aA.out 1; go_wp2; (go_meet); case rel => exact ⟨_, (decide (a1 ≥ aD)), zz5, H', ⟨by first | omega | exact Nat.le_refl _⟩, ⟨zz2⟩, ⟨zz0⟩⟩
 case rest =>
  clear HC3; (try clear p2); (try clear c5); (try clear dS); (try clear eR); (try clear eQ); (try clear eK); (try clear eJ); obtain ⟨kq, nQ, rfl, HA, HJ2, aA, HB⟩ := hcut
  cases kq with
  | zero => exact absurd HA.out (by simp [impl_Valence.j0])
  | succ kj2 =>
   have H := HA.out; clear HA; simp only [impl_Valence.j0] at H; by_cases c7 : nQ = true
   ·subst c7; rw [if_pos rfl] at H; obtain rfl := Option.some.inj H; go_wp2; go_ret; exact ⟨zz7, zz0⟩
   replace c7 := Bool.eq_false_iff.mpr c7; subst c7; rw [if_neg (show ¬ (false = true) by decide)] at H; have H' := zK_ H; clear H; have gK := zC20 aA; have gJ := zC21 aA; have gI := blk_frozen aA.out 0; have gH := blk_frozen aA.out 1; go_wp2; (go_loopg [5, 19] kj2 (fun kq v5 v19 w' => ∃ (bY : Int) (dP : Int), v5 = .int .i64 bY ∧ v19 = .int .i64 dP ∧ Aside0 (impl_Valence.l0 kq a1 bY aC (aC.length : Int) dP = some r) ∧ Aside0 (kq ≤ kj2) ∧ Aside0 (w'.heap[aE]? = some (.cells #[.int .i64 aD, (.slice aH aC.length aG)] 25 (0, 0))) ∧ Aside0 (Below w.heap.size w w'))); case atStart => exact ⟨(0), (0), zz5, zz5, H', ⟨Nat.le_refl _⟩, ⟨zz2⟩, ⟨zz0⟩⟩
   case round =>
    clear H'; (try clear p2); (try clear c5); (try clear dS); (try clear c7); (try clear eR); (try clear eQ); (try clear gK); (try clear gJ); (try clear eK); (try clear eJ); (try clear gI); (try clear gH); (try clear p2); obtain ⟨bY, dP, rfl, rfl, HA, HK2, aA, HB⟩ := hrel
    cases gk with
    | zero => exact absurd HA.out (by simp [impl_Valence.l0])
    | succ k2 =>
     have H := HA.out; clear HA; simp only [impl_Valence.l0] at H; by_cases c9 : dP < (aC.length : Int); rotate_left
     ·rw [if_neg c9] at H; have fN := decide_eq_false c9; clear c9; obtain rfl := Option.some.inj H; go_wp2; go_ret; exact ⟨zz7, zz0⟩
     rw [if_pos c9] at H; have fN := decide_eq_true c9; clear c9; by_cases c10 : 0 ≤ dP; rotate_left
     ·rw [if_neg c10] at H; exact absurd H (by simp)
     rw [if_pos c10] at H; have g3 := decide_eq_true c10; clear c10; by_cases c11 : dP < (aC.length : Int); rotate_left
     ·rw [if_neg c11] at H; exact absurd H (by simp)
     rw [if_pos c11] at H; have k5 := decide_eq_true c11; clear c11; by_cases c12 : ((rd_T57 aC dP).f0) = a1
     ·rw [if_pos c12] at H; have kZ : (((rd_T57 aC dP).f0) == a1) = true := beq_iff_eq.mpr c12; have o4 : (((rd_T57 aC dP).f0) != a1) = false := bne_eq_false_iff_eq.mpr c12; clear c12; have H' := zK_ H; clear H; have p102 : 0 ≤ (dP : Int) := of_decide_eq_true zz4; have q102 : dP < (aC.length : Int) := of_decide_eq_true zz4; obtain ⟨dB, e102, bA, bO⟩ := at_T57 bJ.out dP p102 q102; cases e102; replace bA := (HB.out.cell (World.block_lt_of_cell? w _ bA)).trans bA; replace bO := (HB.out.cell (World.block_lt_of_cell? w _ bO)).trans bO; replace p102 := eq_true p102; replace q102 := eq_true q102; (go_wp2_with (first | ((with_reducible refine gate_dst (N := 7) rfl ?_); refine box_event ?hg (N := 7) ?hd (cs := #[.int .i64 0, .int .i64 0]) (t := 57) ?hr ?_; (case hd => rfl); (case hg => rfl); (case hr => exact zz9); intro b8 hg w13 hbox hb; have n_ := zA7 (blk_below (g := aE) (o := .cells #[.int .i64 aD, .slice (some dB) aC.length aG] 25 (0, 0)) zz2 hb) (below_step zz0 hb) hbox (zz13 : w.heap.size ≤ b8) (zz13 : w.heap.size ≤ b8) (zz37 : aE ≠ b8) (zz38 : b8 ≠ aE); clear aA HB; obtain ⟨aA, HB, b3, GW103, GE103, cI, cU⟩ := n_; clear hb hbox hg; have r7 := cU.out; have r4 := cI.out; have i9 := zC20 b3; have i8 := zC21 b3; have i5 := blk_frozen b3.out 0; have i4 := blk_frozen b3.out 1))); go_roundg k2; (case measure => have := HJ2.out; have := HK2.out; omega); case rel => exact ⟨(wrap64 (bY + 1)), (wrap64 (dP + 1)), zz5, zz5, H', ⟨by have := HJ2.out; have := HK2.out; omega⟩, ⟨zz14⟩, ⟨zz26⟩⟩
     rw [if_neg c12] at H; have kZ : (((rd_T57 aC dP).f0) == a1) = false := beq_eq_false_iff_ne.mpr c12; have o4 : (((rd_T57 aC dP).f0) != a1) = true := bne_iff_ne.mpr c12; by_cases c16 : ((rd_T57 aC dP).f1) = a1; rotate_left
     ·rw [if_neg c16] at H; have iX : (((rd_T57 aC dP).f1) == a1) = false := beq_eq_false_iff_ne.mpr c16; have o3 : (((rd_T57 aC dP).f1) != a1) = true := bne_iff_ne.mpr c16; have H' := zK_ H; clear H; have p102 : 0 ≤ (dP : Int) := of_decide_eq_true zz4; have q102 : dP < (aC.length : Int) := of_decide_eq_true zz4; obtain ⟨dB, e102, bA, bO⟩ := at_T57 bJ.out dP p102 q102; cases e102; replace bA := (HB.out.cell (World.block_lt_of_cell? w _ bA)).trans bA; replace bO := (HB.out.cell (World.block_lt_of_cell? w _ bO)).trans bO; replace p102 := eq_true p102; replace q102 := eq_true q102; (go_wp2_with (first | ((with_reducible refine gate_dst (N := 7) rfl ?_); refine box_event ?hg (N := 7) ?hd (cs := #[.int .i64 0, .int .i64 0]) (t := 57) ?hr ?_; (case hd => rfl); (case hg => rfl); (case hr => exact zz9); intro b8 hg w20 hbox hb; have n_ := zA7 (blk_below (g := aE) (o := .cells #[.int .i64 aD, .slice (some dB) aC.length aG] 25 (0, 0)) zz2 hb) (below_step zz0 hb) hbox (zz13 : w.heap.size ≤ b8) (zz13 : w.heap.size ≤ b8) (zz37 : aE ≠ b8) (zz38 : b8 ≠ aE); clear aA HB; obtain ⟨aA, HB, b3, GW103, GE103, cI, cU⟩ := n_; clear hb hbox hg; have uB := cU.out; have t1 := cI.out; have l7 := zC20 b3; have l6 := zC21 b3; have lY := blk_frozen b3.out 0; have lX := blk_frozen b3.out 1))); go_roundg k2; (case measure => have := HJ2.out; have := HK2.out; omega); case rel => exact ⟨(bY), (wrap64 (dP + 1)), zz5, zz5, H', ⟨by have := HJ2.out; have := HK2.out; omega⟩, ⟨zz14⟩, ⟨zz26⟩⟩
     rw [if_pos c16] at H; have iX : (((rd_T57 aC dP).f1) == a1) = true := beq_iff_eq.mpr c16; have o3 : (((rd_T57 aC dP).f1) != a1) = false := bne_eq_false_iff_eq.mpr c16; clear c16; have H' := zK_ H; clear H; have p102 : 0 ≤ (dP : Int) := of_decide_eq_true zz4; have q102 : dP < (aC.length : Int) := of_decide_eq_true zz4; obtain ⟨dB, e102, bA, bO⟩ := at_T57 bJ.out dP p102 q102; cases e102; replace bA := (HB.out.cell (World.block_lt_of_cell? w _ bA)).trans bA; replace bO := (HB.out.cell (World.block_lt_of_cell? w _ bO)).trans bO; replace p102 := eq_true p102; replace q102 := eq_true q102; (go_wp2_with (first | ((with_reducible refine gate_dst (N := 7) rfl ?_); refine box_event ?hg (N := 7) ?hd (cs := #[.int .i64 0, .int .i64 0]) (t := 57) ?hr ?_; (case hd => rfl); (case hg => rfl); (case hr => exact zz9); intro b8 hg w17 hbox hb; have n_ := zA7 (blk_below (g := aE) (o := .cells #[.int .i64 aD, .slice (some dB) aC.length aG] 25 (0, 0)) zz2 hb) (below_step zz0 hb) hbox (zz13 : w.heap.size ≤ b8) (zz13 : w.heap.size ≤ b8) (zz37 : aE ≠ b8) (zz38 : b8 ≠ aE); clear aA HB; obtain ⟨aA, HB, b3, GW103, GE103, cI, cU⟩ := n_; clear hb hbox hg; have r6 := cU.out; have r3 := cI.out; have jV := zC20 b3; have jU := zC21 b3; have jP := blk_frozen b3.out 0; have jO := blk_frozen b3.out 1))); go_roundg k2; (case measure => have := HJ2.out; have := HK2.out; omega); case rel => exact ⟨(wrap64 (bY + 1)), (wrap64 (dP + 1)), zz5, zz5, H', ⟨by have := HJ2.out; have := HK2.out; omega⟩, ⟨zz14⟩, ⟨zz26⟩⟩
end Go.Proofs.Ytnbljcgdgblgoaa.P
end

section
namespace Go.Proofs.Ytnbljcgdgblgoaa.P
open Go.RowKit Go.Proofs.YtnbljcgdgblgoaaW.PrintWords Go.Proofs.YtnbljcgdgblgoaaW.PrintLast Go.Proofs.YtnbljcgdgblgoaaW.PrintMore
attribute [local go_sem] max2_int min2_int max_two min_two max_three min_three max_four min_four
set_option linter.unusedVariables false
set_option linter.unusedSimpArgs false
def impl_sumOf.l0 : Nat → Int → List Int → Int → Int → Option (Int)
 | 0, _, _, _, _ => none
 | k + 1, x3, x6, x7, x8 => if x8 < x7 then (if 0 ≤ x8 then (if x8 < (x6.length : Int) then (impl_sumOf.l0 k (wrap64 (x3 + (rd x6 x8))) x6 x7 (wrap64 (x8 + 1))) else (none)) else (none)) else (some x3)
def impl_sumOf.f (k : Nat) (l0 : List Int) : Option (Int) := impl_sumOf.l0 k 0 l0 (l0.length : Int) 0
theorem impl_sumOf.mono_l : ∀ k, (∀ y0 y1 y2 y3, LeO (impl_sumOf.l0 k y0 y1 y2 y3) (impl_sumOf.l0 (k + 1) y0 y1 y2 y3))
 | 0 => fun _ _ _ _ r h => by simp [impl_sumOf.l0] at h
 | k + 1 => by
  have ih0 := impl_sumOf.mono_l k
  ·intro y0 y1 y2 y3
   unfold impl_sumOf.l0
   exact zm0
theorem impl_sumOf.mono : ∀ a0 k, LeO (impl_sumOf.f k a0) (impl_sumOf.f (k + 1) a0) := by
 intro a0 k; have ih0 := impl_sumOf.mono_l k; unfold impl_sumOf.f; exact zm0
theorem impl_sumOf.calls (k : Nat) (A0 : Option Addr) (c0 : Nat) (l0 : List Int) (r : Int) (w : World) (hr0 : Kd.C (Kd.int .i64) w A0 l0.length l0) (hc0 : l0.length ≤ c0) (h : impl_sumOf.f k l0 = some r) :
  Calls Try.prog 64 #[.slice A0 l0.length c0] w fun e w' => e = .returned (.int .i64 r) ∧ Drawn0 w w' := by
 have HR0 := zK_ hr0; have HC0 := zK_ hc0; clear hr0 hc0; have H : (impl_sumOf.l0 k 0 l0 (l0.length : Int) 0) = some r := h; clear h; have H' := zK_ H; clear H; go_enter Try.func64, Try.ntmps64; go_wp2; (go_loopg [3, 8] k (fun kq v3 v8 w' => ∃ (bP : Int) (bD : Int), v3 = .int .i64 bP ∧ v8 = .int .i64 bD ∧ Aside0 (impl_sumOf.l0 kq bP l0 (l0.length : Int) bD = some r) ∧ Aside0 (kq ≤ k) ∧ Drawn0 w w')); case atStart => exact ⟨(0), (0), zz5, zz5, H', ⟨Nat.le_refl _⟩, by repeat (first | exact Drawn0.refl _ | apply Drawn0.step)⟩
 case round =>
  clear H'; obtain ⟨bP, bD, rfl, rfl, HA, HK1, ⟨m1, rfl⟩⟩ := hrel
  cases gk with
  | zero => exact absurd HA.out (by simp [impl_sumOf.l0])
  | succ k1 =>
   have H := HA.out; clear HA; simp only [impl_sumOf.l0] at H; by_cases c2 : bD < (l0.length : Int); rotate_left
   ·rw [if_neg c2] at H; have j9 := decide_eq_false c2; clear c2; obtain rfl := Option.some.inj H; go_wp2; go_ret; exact ⟨zz5, by repeat (first | exact Drawn0.refl _ | apply Drawn0.step)⟩
   rw [if_pos c2] at H; have j9 := decide_eq_true c2; clear c2; by_cases c3 : 0 ≤ bD; rotate_left
   ·rw [if_neg c3] at H; exact absurd H (by simp)
   rw [if_pos c3] at H; have dU := decide_eq_true c3; clear c3; by_cases c4 : bD < (l0.length : Int); rotate_left
   ·rw [if_neg c4] at H; exact absurd H (by simp)
   rw [if_pos c4] at H; have dI := decide_eq_true c4; clear c4; have H' := zK_ H; clear H; have p101 : 0 ≤ (bD : Int) := of_decide_eq_true zz4; have q101 : bD < (l0.length : Int) := of_decide_eq_true zz4; obtain ⟨cR, e101, a7⟩ := Kd.at_int HR0.out bD p101 q101; cases e101; replace p101 := eq_true p101; replace q101 := eq_true q101; go_wp2; go_roundg k1; (case measure => have := HK1.out; omega); case rel => exact ⟨(wrap64 (bP + (rd l0 bD))), (wrap64 (bD + 1)), zz5, zz5, H', ⟨zz36⟩, by repeat (first | exact Drawn0.refl _ | apply Drawn0.step)⟩
def impl_within.f (a0 : Int) (a1 : Int) (a2 : Int) : Option (Bool) := if a0 ≥ a1 then (some (decide (a0 ≤ a2))) else (some false)
theorem impl_within.calls (a0 : Int) (a1 : Int) (a2 : Int) (r : Bool) (w : World) (h : impl_within.f a0 a1 a2 = some r) :
  Calls Try.prog 39 #[.int .i64 a0, .int .i64 a1, .int .i64 a2] w fun e w' => e = .returned (.bool r) ∧ Drawn0 w w' := by
 have H : (if a0 ≥ a1 then (some (decide (a0 ≤ a2))) else (some false)) = some r := h; clear h; by_cases c4 : a0 ≥ a1
 ·rw [if_pos c4] at H; have dI : decide (a1 ≤ a0) = true := decide_eq_true c4; clear c4; obtain rfl := Option.some.inj H; go_enter Try.func39, Try.ntmps39; go_wp2; go_ret; exact ⟨zz5, by repeat (first | exact Drawn0.refl _ | apply Drawn0.step)⟩
 rw [if_neg c4] at H; have dI : decide (a1 ≤ a0) = false := decide_eq_false c4; clear c4; obtain rfl := Option.some.inj H; go_enter Try.func39, Try.ntmps39; go_wp2; go_ret; exact ⟨zz5, by repeat (first | exact Drawn0.refl _ | apply Drawn0.step)⟩
mutual
def impl_connected.l0 : Nat → Int → List (S57) → Int → Int → Int → Option (Bool)
 | 0, _, _, _, _, _ => none
 | k + 1, x0, x1, x5, x8, x9 => if x9 < x8 then (impl_connected.l1 k x0 x1 x5 x8 x9 x1 (x1.length : Int) 0) else (if 0 ≤ x0 then (some (x5 == (wrap64 ((shl .i64 1 x0) - 1)))) else (none))
def impl_connected.l1 : Nat → Int → List (S57) → Int → Int → Int → List (S57) → Int → Int → Option (Bool)
 | 0, _, _, _, _, _, _, _, _ => none
 | k + 1, x0, x1, x5, x8, x9, d5, j6, jH => if jH < j6 then (if 0 ≤ jH then (if jH < (d5.length : Int) then (if 0 ≤ ((rd_T57 d5 jH).f0) then (if (Go.bits .and .i64 (shr .i64 x5 ((rd_T57 d5 jH).f0)) 1) = 1 then (if 0 ≤ ((rd_T57 d5 jH).f1) then (impl_connected.l1 k x0 x1 (Go.bits .or .i64 x5 (Go.bits .or .i64 (shl .i64 1 ((rd_T57 d5 jH).f0)) (shl .i64 1 ((rd_T57 d5 jH).f1)))) x8 x9 d5 j6 (wrap64 (jH + 1))) else (none)) else (if 0 ≤ ((rd_T57 d5 jH).f1) then (if (Go.bits .and .i64 (shr .i64 x5 ((rd_T57 d5 jH).f1)) 1) = 1 then (impl_connected.l1 k x0 x1 (Go.bits .or .i64 x5 (Go.bits .or .i64 (shl .i64 1 ((rd_T57 d5 jH).f0)) (shl .i64 1 ((rd_T57 d5 jH).f1)))) x8 x9 d5 j6 (wrap64 (jH + 1))) else (impl_connected.l1 k x0 x1 x5 x8 x9 d5 j6 (wrap64 (jH + 1)))) else (none))) else (none)) else (none)) else (none)) else (impl_connected.l0 k x0 x1 x5 x8 (wrap64 (x9 + 1)))
end
def impl_connected.f (k : Nat) (a0 : Int) (l1 : List (S57)) : Option (Bool) := impl_connected.l0 k a0 l1 1 a0 0
theorem impl_connected.mono_l : ∀ k, (∀ y0 y1 y2 y3 y4, LeO (impl_connected.l0 k y0 y1 y2 y3 y4) (impl_connected.l0 (k + 1) y0 y1 y2 y3 y4)) ∧ (∀ y0 y1 y2 y3 y4 y5 y6 y7, LeO (impl_connected.l1 k y0 y1 y2 y3 y4 y5 y6 y7) (impl_connected.l1 (k + 1) y0 y1 y2 y3 y4 y5 y6 y7))
 | 0 => ⟨fun _ _ _ _ _ r h => by simp [impl_connected.l0] at h, fun _ _ _ _ _ _ _ _ r h => by simp [impl_connected.l1] at h⟩
 | k + 1 => by
  obtain ⟨ih0, ih1⟩ := impl_connected.mono_l k
  refine ⟨?_, ?_⟩
  ·intro y0 y1 y2 y3 y4
   unfold impl_connected.l0
   exact zm1
  ·intro y0 y1 y2 y3 y4 y5 y6 y7
   unfold impl_connected.l1
   exact zm1
theorem impl_connected.mono : ∀ a0 a1 k, LeO (impl_connected.f k a0 a1) (impl_connected.f (k + 1) a0 a1) := by
 intro a0 a1 k; obtain ⟨ih0, ih1⟩ := impl_connected.mono_l k; unfold impl_connected.f; exact zm1
theorem impl_connected.calls (k : Nat) (a0 : Int) (A1 : Option Addr) (c1 : Nat) (l1 : List (S57)) (r : Bool) (w : World) (hr1 : Kd.C k57 w A1 l1.length l1) (hc1 : l1.length ≤ c1) (h : impl_connected.f k a0 l1 = some r) :
  Calls Try.prog 52 #[.int .i64 a0, .slice A1 l1.length c1] w fun e w' => e = .returned (.bool r) ∧ Below w.heap.size w w' := by
 have hu57 := Try.underlying57; have HR1 := zK_ hr1; have HC1 := zK_ hc1; clear hr1 hc1; have HB := zK_ (Below.refl w.heap.size w); have H : (impl_connected.l0 k a0 l1 1 a0 0) = some r := h; clear h; have H' := zK_ H; clear H; go_enter Try.func52, Try.ntmps52; go_wp2; (repeat (go_quiet (fail); try go_wp2)); (go_loopg [5, 9] k (fun kq v5 v9 w' => ∃ (aU : Int) (bN : Int), v5 = .int .i64 aU ∧ v9 = .int .i64 bN ∧ Aside0 (impl_connected.l0 kq a0 l1 aU a0 bN = some r) ∧ Aside0 (kq ≤ k) ∧ Aside0 (Below w.heap.size w w'))); case atStart => exact ⟨(1), (0), zz5, zz5, H', ⟨Nat.le_refl _⟩, ⟨zz1⟩⟩
 case round =>
  clear H'; (try clear c1); (try clear p2); obtain ⟨aU, bN, rfl, rfl, HA, HK1, HB⟩ := hrel
  cases gk with
  | zero => exact absurd HA.out (by simp [impl_connected.l0])
  | succ k1 =>
   have H := HA.out; clear HA; simp only [impl_connected.l0] at H; by_cases c3 : bN < a0; rotate_left
   ·rw [if_neg c3] at H; have dU := decide_eq_false c3; clear c3; by_cases c27 : 0 ≤ a0; rotate_left
    ·rw [if_neg c27] at H; exact absurd H (by simp)
    rw [if_pos c27] at H; have u9 := eq_true c27; have DK : decide (0 ≤ a0) = true := decide_eq_true c27; clear c27; obtain ⟨nD, mN⟩ : ∃ j_ : Int, (shl .i64 1 a0) = j_ := ⟨_, rfl⟩; (replace H : (some (aU == (wrap64 ((nD) - 1)))) = some r := by first | (rw [mN] at H; exact H) | (simp only [mN] at H ⊢; exact H)); have pT : (IntKind.i64.wrap (1 * 2 ^ min a0.toNat 64)) = nD := mN; have pS : a0 ≤ 64 → (IntKind.i64.wrap (1 * 2 ^ a0.toNat)) = nD := shl_small mN; (have yP : (IntKind.i64.wrap (2 ^ min a0.toNat 64)) = nD := by have h_ := pT; rw [Int.one_mul] at h_; exact h_); (have yO : a0 ≤ 64 → (IntKind.i64.wrap (2 ^ a0.toNat)) = nD := fun hle_ => by have h_ := pS hle_; rw [Int.one_mul] at h_; exact h_); have yM : (wrap64 (1 * 2 ^ min a0.toNat 64)) = nD := (i64_w _).symm.trans pT; (have yN : a0 ≤ 64 → (wrap64 (1 * 2 ^ a0.toNat)) = nD := fun h_ => (i64_w _).symm.trans (pS h_)); obtain rfl := Option.some.inj H; go_wp2; (repeat (go_quiet (fail); try go_wp2)); go_ret; exact ⟨by first | rfl | (simp [errW_none, errW_some] <;> rfl) | (simp only [← mN]; first | rfl | (simp [errW_none, errW_some] <;> rfl)) | (simp [*, errW_none, errW_some] <;> rfl), zz1⟩
   rw [if_pos c3] at H; have dU := decide_eq_true c3; clear c3; have H' := zK_ H; clear H; go_wp2; (repeat (go_quiet (fail); try go_wp2)); (go_loopg [5, 13] k1 (fun kq v5 v13 w' => ∃ (bY : Int) (a8 : Int), v5 = .int .i64 bY ∧ v13 = .int .i64 a8 ∧ Aside0 (impl_connected.l1 kq a0 l1 bY a0 bN l1 (l1.length : Int) a8 = some r) ∧ Aside0 (kq ≤ k1) ∧ Aside0 (Below w.heap.size w w'))); case atStart => exact ⟨(aU), (0), zz5, zz5, H', ⟨Nat.le_refl _⟩, ⟨zz1⟩⟩
   case round =>
    clear H'; (try clear c1); (try clear p2); (try clear c3); (try clear dU); (try clear p2); obtain ⟨bY, a8, rfl, rfl, HA, HK2, HB⟩ := hrel
    cases gk with
    | zero => exact absurd HA.out (by simp [impl_connected.l1])
    | succ k2 =>
     have H := HA.out; clear HA; simp only [impl_connected.l1] at H; by_cases c4 : a8 < (l1.length : Int); rotate_left
     ·rw [if_neg c4] at H; have dI := decide_eq_false c4; clear c4; have H' := zK_ H; clear H; go_wp2; (repeat (go_quiet (fail); try go_wp2)); go_roundg k2; (case measure => have := HK1.out; have := HK2.out; omega); case rel => exact ⟨(bY), (wrap64 (bN + 1)), zz5, zz5, H', ⟨zz53⟩, ⟨zz1⟩⟩
     rw [if_pos c4] at H; have dI := decide_eq_true c4; clear c4; by_cases c5 : 0 ≤ a8; rotate_left
     ·rw [if_neg c5] at H; exact absurd H (by simp)
     rw [if_pos c5] at H; have dS := decide_eq_true c5; clear c5; by_cases c6 : a8 < (l1.length : Int); rotate_left
     ·rw [if_neg c6] at H; exact absurd H (by simp)
     rw [if_pos c6] at H; have eS := decide_eq_true c6; clear c6; by_cases c7 : 0 ≤ ((rd_T57 l1 a8).f0); rotate_left
     ·rw [if_neg c7] at H; exact absurd H (by simp)
     rw [if_pos c7] at H; have d4 := eq_true c7; have lA : decide (0 ≤ ((rd_T57 l1 a8).f0)) = true := decide_eq_true c7; clear c7; obtain ⟨nU, mL⟩ : ∃ j_ : Int, (shr .i64 bY ((rd_T57 l1 a8).f0)) = j_ := ⟨_, rfl⟩; (replace H : (if (Go.bits .and .i64 (nU) 1) = 1 then (if 0 ≤ ((rd_T57 l1 a8).f1) then (impl_connected.l1 k2 a0 l1 (Go.bits .or .i64 bY (Go.bits .or .i64 (shl .i64 1 ((rd_T57 l1 a8).f0)) (shl .i64 1 ((rd_T57 l1 a8).f1)))) a0 bN l1 (l1.length : Int) (wrap64 (a8 + 1))) else (none)) else (if 0 ≤ ((rd_T57 l1 a8).f1) then (if (Go.bits .and .i64 (shr .i64 bY ((rd_T57 l1 a8).f1)) 1) = 1 then (impl_connected.l1 k2 a0 l1 (Go.bits .or .i64 bY (Go.bits .or .i64 (shl .i64 1 ((rd_T57 l1 a8).f0)) (shl .i64 1 ((rd_T57 l1 a8).f1)))) a0 bN l1 (l1.length : Int) (wrap64 (a8 + 1))) else (impl_connected.l1 k2 a0 l1 bY a0 bN l1 (l1.length : Int) (wrap64 (a8 + 1)))) else (none))) = some r := by first | (rw [mL] at H; exact H) | (simp only [mL] at H ⊢; exact H)); have uE : (bY / 2 ^ min ((rd_T57 l1 a8).f0).toNat 64) = nU := mL; have C1 : ((rd_T57 l1 a8).f0) ≤ 64 → (bY / 2 ^ ((rd_T57 l1 a8).f0).toNat) = nU := shr_small mL; by_cases c9 : (Go.bits .and .i64 (nU) 1) = 1
     ·rw [if_pos c9] at H; have fN : ((Go.bits .and .i64 (nU) 1) == 1) = true := beq_iff_eq.mpr c9; have qM : ((Go.bits .and .i64 (nU) 1) != 1) = false := bne_eq_false_iff_eq.mpr c9; clear c9; have g3 := eq_true (of_decide_eq_true zz4 : 0 ≤ ((rd_T57 l1 a8).f0)); obtain ⟨lS, mQ⟩ : ∃ j_ : Int, (shl .i64 1 ((rd_T57 l1 a8).f0)) = j_ := ⟨_, rfl⟩; (replace H : (if 0 ≤ ((rd_T57 l1 a8).f1) then (impl_connected.l1 k2 a0 l1 (Go.bits .or .i64 bY (Go.bits .or .i64 (lS) (shl .i64 1 ((rd_T57 l1 a8).f1)))) a0 bN l1 (l1.length : Int) (wrap64 (a8 + 1))) else (none)) = some r := by first | (rw [mQ] at H; exact H) | (simp only [mQ] at H ⊢; exact H)); have qE : (IntKind.i64.wrap (1 * 2 ^ min ((rd_T57 l1 a8).f0).toNat 64)) = lS := mQ; have qD : ((rd_T57 l1 a8).f0) ≤ 64 → (IntKind.i64.wrap (1 * 2 ^ ((rd_T57 l1 a8).f0).toNat)) = lS := shl_small mQ; (have zV : (IntKind.i64.wrap (2 ^ min ((rd_T57 l1 a8).f0).toNat 64)) = lS := by have h_ := qE; rw [Int.one_mul] at h_; exact h_); (have zT : ((rd_T57 l1 a8).f0) ≤ 64 → (IntKind.i64.wrap (2 ^ ((rd_T57 l1 a8).f0).toNat)) = lS := fun hle_ => by have h_ := qD hle_; rw [Int.one_mul] at h_; exact h_); have zR : (wrap64 (1 * 2 ^ min ((rd_T57 l1 a8).f0).toNat 64)) = lS := (i64_w _).symm.trans qE; (have zS : ((rd_T57 l1 a8).f0) ≤ 64 → (wrap64 (1 * 2 ^ ((rd_T57 l1 a8).f0).toNat)) = lS := fun h_ => (i64_w _).symm.trans (qD h_)); by_cases c12 : 0 ≤ ((rd_T57 l1 a8).f1); rotate_left
      ·rw [if_neg c12] at H; exact absurd H (by simp)
      rw [if_pos c12] at H; have kZ := eq_true c12; have o4 : decide (0 ≤ ((rd_T57 l1 a8).f1)) = true := decide_eq_true c12; clear c12; obtain ⟨mK, mP⟩ : ∃ j_ : Int, (shl .i64 1 ((rd_T57 l1 a8).f1)) = j_ := ⟨_, rfl⟩; (replace H : (impl_connected.l1 k2 a0 l1 (Go.bits .or .i64 bY (Go.bits .or .i64 (lS) (mK))) a0 bN l1 (l1.length : Int) (wrap64 (a8 + 1))) = some r := by first | (rw [mP] at H; exact H) | (simp only [mP] at H ⊢; exact H)); have qC : (IntKind.i64.wrap (1 * 2 ^ min ((rd_T57 l1 a8).f1).toNat 64)) = mK := mP; have qB : ((rd_T57 l1 a8).f1) ≤ 64 → (IntKind.i64.wrap (1 * 2 ^ ((rd_T57 l1 a8).f1).toNat)) = mK := shl_small mP; (have zJ : (IntKind.i64.wrap (2 ^ min ((rd_T57 l1 a8).f1).toNat 64)) = mK := by have h_ := qC; rw [Int.one_mul] at h_; exact h_); (have zI : ((rd_T57 l1 a8).f1) ≤ 64 → (IntKind.i64.wrap (2 ^ ((rd_T57 l1 a8).f1).toNat)) = mK := fun hle_ => by have h_ := qB hle_; rw [Int.one_mul] at h_; exact h_); have zG : (wrap64 (1 * 2 ^ min ((rd_T57 l1 a8).f1).toNat 64)) = mK := (i64_w _).symm.trans qC; (have zH : ((rd_T57 l1 a8).f1) ≤ 64 → (wrap64 (1 * 2 ^ ((rd_T57 l1 a8).f1).toNat)) = mK := fun h_ => (i64_w _).symm.trans (qB h_)); have H' := zK_ H; clear H; have p101 : 0 ≤ (a8 : Int) := of_decide_eq_true zz4; have q101 : a8 < (l1.length : Int) := of_decide_eq_true zz4; obtain ⟨cR, e101, a7, cQ⟩ := at_T57 HR1.out a8 p101 q101; cases e101; replace a7 := (HB.out.cell (World.block_lt_of_cell? w _ a7)).trans a7; replace cQ := (HB.out.cell (World.block_lt_of_cell? w _ cQ)).trans cQ; replace p101 := eq_true p101; replace q101 := eq_true q101; (go_wp2_with (first | ((with_reducible refine gate_dst (N := 7) rfl ?_); refine box_event ?hg (N := 7) ?hd (cs := #[.int .i64 0, .int .i64 0]) (t := 57) ?hr ?_; (case hd => rfl); (case hg => rfl); (case hr => exact zz9); intro bB hg w14 hbox hb; have n_ := zA4 (below_step zz1 hb) hbox (zz10 : w.heap.size ≤ bB) (zz10 : w.heap.size ≤ bB); clear HB; obtain ⟨HB, aZ, GW102, GE102⟩ := n_; clear hb hbox hg; have i9 := zC20 aZ; have i8 := zC21 aZ; have i5 := blk_frozen aZ.out 0; have i4 := blk_frozen aZ.out 1))); (repeat (go_quiet (first | ((with_reducible refine gate_dst (N := 7) rfl ?_); refine box_event ?hg (N := 7) ?hd (cs := #[.int .i64 0, .int .i64 0]) (t := 57) ?hr ?_; (case hd => rfl); (case hg => rfl); (case hr => exact zz9); intro bB hg w14 hbox hb; have n_ := zA4 (below_step zz1 hb) hbox (zz10 : w.heap.size ≤ bB) (zz10 : w.heap.size ≤ bB); clear HB; obtain ⟨HB, aZ, GW102, GE102⟩ := n_; clear hb hbox hg; have i9 := zC20 aZ; have i8 := zC21 aZ; have i5 := blk_frozen aZ.out 0; have i4 := blk_frozen aZ.out 1)); try go_wp2_with (first | ((with_reducible refine gate_dst (N := 7) rfl ?_); refine box_event ?hg (N := 7) ?hd (cs := #[.int .i64 0, .int .i64 0]) (t := 57) ?hr ?_; (case hd => rfl); (case hg => rfl); (case hr => exact zz9); intro bB hg w14 hbox hb; have n_ := zA4 (below_step zz1 hb) hbox (zz10 : w.heap.size ≤ bB) (zz10 : w.heap.size ≤ bB); clear HB; obtain ⟨HB, aZ, GW102, GE102⟩ := n_; clear hb hbox hg; have i9 := zC20 aZ; have i8 := zC21 aZ; have i5 := blk_frozen aZ.out 0; have i4 := blk_frozen aZ.out 1)))); go_roundg k2; (case measure => have := HK1.out; have := HK2.out; omega); case rel => exact ⟨(Go.bits .or .i64 bY (Go.bits .or .i64 (lS) (mK))), (wrap64 (a8 + 1)), (by first | rfl | (simp; done) | (simp only [← mQ, ← mP] <;> (first | rfl | simp)) | (simp [*]; done)), zz5, H', ⟨zz53⟩, ⟨zz63⟩⟩
     rw [if_neg c9] at H; have fN : ((Go.bits .and .i64 (nU) 1) == 1) = false := beq_eq_false_iff_ne.mpr c9; have qM : ((Go.bits .and .i64 (nU) 1) != 1) = true := bne_iff_ne.mpr c9; by_cases c16 : 0 ≤ ((rd_T57 l1 a8).f1); rotate_left
     ·rw [if_neg c16] at H; exact absurd H (by simp)
     rw [if_pos c16] at H; have iX := eq_true c16; have o3 : decide (0 ≤ ((rd_T57 l1 a8).f1)) = true := decide_eq_true c16; clear c16; obtain ⟨dH, fK⟩ : ∃ j_ : Int, (shr .i64 bY ((rd_T57 l1 a8).f1)) = j_ := ⟨_, rfl⟩; (replace H : (if (Go.bits .and .i64 (dH) 1) = 1 then (impl_connected.l1 k2 a0 l1 (Go.bits .or .i64 bY (Go.bits .or .i64 (shl .i64 1 ((rd_T57 l1 a8).f0)) (shl .i64 1 ((rd_T57 l1 a8).f1)))) a0 bN l1 (l1.length : Int) (wrap64 (a8 + 1))) else (impl_connected.l1 k2 a0 l1 bY a0 bN l1 (l1.length : Int) (wrap64 (a8 + 1)))) = some r := by first | (rw [fK] at H; exact H) | (simp only [fK] at H ⊢; exact H)); have lU : (bY / 2 ^ min ((rd_T57 l1 a8).f1).toNat 64) = dH := fK; have nH : ((rd_T57 l1 a8).f1) ≤ 64 → (bY / 2 ^ ((rd_T57 l1 a8).f1).toNat) = dH := shr_small fK; by_cases c18 : (Go.bits .and .i64 (dH) 1) = 1; rotate_left
     ·rw [if_neg c18] at H; have iW : ((Go.bits .and .i64 (dH) 1) == 1) = false := beq_eq_false_iff_ne.mpr c18; have oZ : ((Go.bits .and .i64 (dH) 1) != 1) = true := bne_iff_ne.mpr c18; have H' := zK_ H; clear H; have p101 : 0 ≤ (a8 : Int) := of_decide_eq_true zz4; have q101 : a8 < (l1.length : Int) := of_decide_eq_true zz4; obtain ⟨cR, e101, a7, cQ⟩ := at_T57 HR1.out a8 p101 q101; cases e101; replace a7 := (HB.out.cell (World.block_lt_of_cell? w _ a7)).trans a7; replace cQ := (HB.out.cell (World.block_lt_of_cell? w _ cQ)).trans cQ; replace p101 := eq_true p101; replace q101 := eq_true q101; (go_wp2_with (first | ((with_reducible refine gate_dst (N := 7) rfl ?_); refine box_event ?hg (N := 7) ?hd (cs := #[.int .i64 0, .int .i64 0]) (t := 57) ?hr ?_; (case hd => rfl); (case hg => rfl); (case hr => exact zz9); intro bB hg w25 hbox hb; have n_ := zA4 (below_step zz1 hb) hbox (zz10 : w.heap.size ≤ bB) (zz10 : w.heap.size ≤ bB); clear HB; obtain ⟨HB, aZ, GW102, GE102⟩ := n_; clear hb hbox hg; have jT := zC20 aZ; have jS := zC21 aZ; have jN := blk_frozen aZ.out 0; have jM := blk_frozen aZ.out 1))); (repeat (go_quiet (first | ((with_reducible refine gate_dst (N := 7) rfl ?_); refine box_event ?hg (N := 7) ?hd (cs := #[.int .i64 0, .int .i64 0]) (t := 57) ?hr ?_; (case hd => rfl); (case hg => rfl); (case hr => exact zz9); intro bB hg w25 hbox hb; have n_ := zA4 (below_step zz1 hb) hbox (zz10 : w.heap.size ≤ bB) (zz10 : w.heap.size ≤ bB); clear HB; obtain ⟨HB, aZ, GW102, GE102⟩ := n_; clear hb hbox hg; have jT := zC20 aZ; have jS := zC21 aZ; have jN := blk_frozen aZ.out 0; have jM := blk_frozen aZ.out 1)); try go_wp2_with (first | ((with_reducible refine gate_dst (N := 7) rfl ?_); refine box_event ?hg (N := 7) ?hd (cs := #[.int .i64 0, .int .i64 0]) (t := 57) ?hr ?_; (case hd => rfl); (case hg => rfl); (case hr => exact zz9); intro bB hg w25 hbox hb; have n_ := zA4 (below_step zz1 hb) hbox (zz10 : w.heap.size ≤ bB) (zz10 : w.heap.size ≤ bB); clear HB; obtain ⟨HB, aZ, GW102, GE102⟩ := n_; clear hb hbox hg; have jT := zC20 aZ; have jS := zC21 aZ; have jN := blk_frozen aZ.out 0; have jM := blk_frozen aZ.out 1)))); go_roundg k2; (case measure => have := HK1.out; have := HK2.out; omega); case rel => exact ⟨(bY), (wrap64 (a8 + 1)), zz5, zz5, H', ⟨zz53⟩, ⟨zz63⟩⟩
     rw [if_pos c18] at H; have iW : ((Go.bits .and .i64 (dH) 1) == 1) = true := beq_iff_eq.mpr c18; have oZ : ((Go.bits .and .i64 (dH) 1) != 1) = false := bne_eq_false_iff_eq.mpr c18; clear c18; have mX := eq_true (of_decide_eq_true zz4 : 0 ≤ ((rd_T57 l1 a8).f0)); obtain ⟨lR, mO⟩ : ∃ j_ : Int, (shl .i64 1 ((rd_T57 l1 a8).f0)) = j_ := ⟨_, rfl⟩; (replace H : (impl_connected.l1 k2 a0 l1 (Go.bits .or .i64 bY (Go.bits .or .i64 (lR) (shl .i64 1 ((rd_T57 l1 a8).f1)))) a0 bN l1 (l1.length : Int) (wrap64 (a8 + 1))) = some r := by first | (rw [mO] at H; exact H) | (simp only [mO] at H ⊢; exact H)); have pZ : (IntKind.i64.wrap (1 * 2 ^ min ((rd_T57 l1 a8).f0).toNat 64)) = lR := mO; have pY : ((rd_T57 l1 a8).f0) ≤ 64 → (IntKind.i64.wrap (1 * 2 ^ ((rd_T57 l1 a8).f0).toNat)) = lR := shl_small mO; (have yZ : (IntKind.i64.wrap (2 ^ min ((rd_T57 l1 a8).f0).toNat 64)) = lR := by have h_ := pZ; rw [Int.one_mul] at h_; exact h_); (have yY : ((rd_T57 l1 a8).f0) ≤ 64 → (IntKind.i64.wrap (2 ^ ((rd_T57 l1 a8).f0).toNat)) = lR := fun hle_ => by have h_ := pY hle_; rw [Int.one_mul] at h_; exact h_); have yW : (wrap64 (1 * 2 ^ min ((rd_T57 l1 a8).f0).toNat 64)) = lR := (i64_w _).symm.trans pZ; (have yX : ((rd_T57 l1 a8).f0) ≤ 64 → (wrap64 (1 * 2 ^ ((rd_T57 l1 a8).f0).toNat)) = lR := fun h_ => (i64_w _).symm.trans (pY h_)); have kC := eq_true (of_decide_eq_true zz4 : 0 ≤ ((rd_T57 l1 a8).f1)); obtain ⟨dD, fY⟩ : ∃ j_ : Int, (shl .i64 1 ((rd_T57 l1 a8).f1)) = j_ := ⟨_, rfl⟩; (replace H : (impl_connected.l1 k2 a0 l1 (Go.bits .or .i64 bY (Go.bits .or .i64 (lR) (dD))) a0 bN l1 (l1.length : Int) (wrap64 (a8 + 1))) = some r := by first | (rw [fY] at H; exact H) | (simp only [fY] at H ⊢; exact H)); have pX : (IntKind.i64.wrap (1 * 2 ^ min ((rd_T57 l1 a8).f1).toNat 64)) = dD := fY; have pW : ((rd_T57 l1 a8).f1) ≤ 64 → (IntKind.i64.wrap (1 * 2 ^ ((rd_T57 l1 a8).f1).toNat)) = dD := shl_small fY; (have yV : (IntKind.i64.wrap (2 ^ min ((rd_T57 l1 a8).f1).toNat 64)) = dD := by have h_ := pX; rw [Int.one_mul] at h_; exact h_); (have yU : ((rd_T57 l1 a8).f1) ≤ 64 → (IntKind.i64.wrap (2 ^ ((rd_T57 l1 a8).f1).toNat)) = dD := fun hle_ => by have h_ := pW hle_; rw [Int.one_mul] at h_; exact h_); have yS : (wrap64 (1 * 2 ^ min ((rd_T57 l1 a8).f1).toNat 64)) = dD := (i64_w _).symm.trans pX; (have yT : ((rd_T57 l1 a8).f1) ≤ 64 → (wrap64 (1 * 2 ^ ((rd_T57 l1 a8).f1).toNat)) = dD := fun h_ => (i64_w _).symm.trans (pW h_)); have H' := zK_ H; clear H; have p101 : 0 ≤ (a8 : Int) := of_decide_eq_true zz4; have q101 : a8 < (l1.length : Int) := of_decide_eq_true zz4; obtain ⟨cR, e101, a7, cQ⟩ := at_T57 HR1.out a8 p101 q101; cases e101; replace a7 := (HB.out.cell (World.block_lt_of_cell? w _ a7)).trans a7; replace cQ := (HB.out.cell (World.block_lt_of_cell? w _ cQ)).trans cQ; replace p101 := eq_true p101; replace q101 := eq_true q101; (go_wp2_with (first | ((with_reducible refine gate_dst (N := 7) rfl ?_); refine box_event ?hg (N := 7) ?hd (cs := #[.int .i64 0, .int .i64 0]) (t := 57) ?hr ?_; (case hd => rfl); (case hg => rfl); (case hr => exact zz9); intro bB hg w23 hbox hb; have n_ := zA4 (below_step zz1 hb) hbox (zz10 : w.heap.size ≤ bB) (zz10 : w.heap.size ≤ bB); clear HB; obtain ⟨HB, aZ, GW102, GE102⟩ := n_; clear hb hbox hg; have gF := zC20 aZ; have gE := zC21 aZ; have gD := blk_frozen aZ.out 0; have gC := blk_frozen aZ.out 1))); (repeat (go_quiet (first | ((with_reducible refine gate_dst (N := 7) rfl ?_); refine box_event ?hg (N := 7) ?hd (cs := #[.int .i64 0, .int .i64 0]) (t := 57) ?hr ?_; (case hd => rfl); (case hg => rfl); (case hr => exact zz9); intro bB hg w23 hbox hb; have n_ := zA4 (below_step zz1 hb) hbox (zz10 : w.heap.size ≤ bB) (zz10 : w.heap.size ≤ bB); clear HB; obtain ⟨HB, aZ, GW102, GE102⟩ := n_; clear hb hbox hg; have gF := zC20 aZ; have gE := zC21 aZ; have gD := blk_frozen aZ.out 0; have gC := blk_frozen aZ.out 1)); try go_wp2_with (first | ((with_reducible refine gate_dst (N := 7) rfl ?_); refine box_event ?hg (N := 7) ?hd (cs := #[.int .i64 0, .int .i64 0]) (t := 57) ?hr ?_; (case hd => rfl); (case hg => rfl); (case hr => exact zz9); intro bB hg w23 hbox hb; have n_ := zA4 (below_step zz1 hb) hbox (zz10 : w.heap.size ≤ bB) (zz10 : w.heap.size ≤ bB); clear HB; obtain ⟨HB, aZ, GW102, GE102⟩ := n_; clear hb hbox hg; have gF := zC20 aZ; have gE := zC21 aZ; have gD := blk_frozen aZ.out 0; have gC := blk_frozen aZ.out 1)))); go_roundg k2; (case measure => have := HK1.out; have := HK2.out; omega); case rel => exact ⟨(Go.bits .or .i64 bY (Go.bits .or .i64 (lR) (dD))), (wrap64 (a8 + 1)), (by first | rfl | (simp; done) | (simp only [← mO, ← fY] <;> (first | rfl | simp)) | (simp [*]; done)), zz5, H', ⟨zz53⟩, ⟨zz63⟩⟩
end Go.Proofs.Ytnbljcgdgblgoaa.P
end

section
namespace Go.Proofs.Ytnbljcgdgblgoaa.P
open Go.RowKit Go.Proofs.YtnbljcgdgblgoaaW.PrintWords Go.Proofs.YtnbljcgdgblgoaaW.PrintLast Go.Proofs.YtnbljcgdgblgoaaW.PrintMore
attribute [local go_sem] max2_int min2_int max_two min_two max_three min_three max_four min_four
set_option linter.unusedVariables false
set_option linter.unusedSimpArgs false
mutual
def impl_EdgesOk.j0 : Nat → Bool → Int → List (S57) → Option (Bool)
 | 0, _, _, _ => none
 | k + 1, rD, aJ, aI => if rD = true then (some false) else (impl_EdgesOk.l0 k aI (aI.length : Int) 0 aJ aI)
def impl_EdgesOk.l0 : Nat → List (S57) → Int → Int → Int → List (S57) → Option (Bool)
 | 0, _, _, _, _, _ => none
 | k + 1, iJ, iQ, iP, aJ, aI => if iP < iQ then (if 0 ≤ iP then (if iP < (iJ.length : Int) then (if ((rd_T57 iJ iP).f0) < 0 then (some false) else (if ((rd_T57 iJ iP).f0) ≥ ((rd_T57 iJ iP).f1) then (some false) else (if ((rd_T57 iJ iP).f1) ≥ aJ then (some false) else (impl_EdgesOk.l0 k iJ iQ (wrap64 (iP + 1)) aJ aI)))) else (none)) else (none)) else (some true)
end
def impl_EdgesOk.f (k : Nat) (aD : Int) (aC : List (S57)) : Option (Bool) := (impl_within.f aD 1 6).bind fun aQ => (if aQ = true then (impl_EdgesOk.j0 k (decide ((aC.length : Int) > 12)) aD aC) else (impl_EdgesOk.j0 k true aD aC))
theorem impl_EdgesOk.mono_l : ∀ k, (∀ y0 y1 y2, LeO (impl_EdgesOk.j0 k y0 y1 y2) (impl_EdgesOk.j0 (k + 1) y0 y1 y2)) ∧ (∀ y0 y1 y2 y3 y4, LeO (impl_EdgesOk.l0 k y0 y1 y2 y3 y4) (impl_EdgesOk.l0 (k + 1) y0 y1 y2 y3 y4))
 | 0 => ⟨fun _ _ _ r h => by simp [impl_EdgesOk.j0] at h, fun _ _ _ _ _ r h => by simp [impl_EdgesOk.l0] at h⟩
 | k + 1 => by
  obtain ⟨ih0, ih1⟩ := impl_EdgesOk.mono_l k
  refine ⟨?_, ?_⟩
  ·intro y0 y1 y2
   unfold impl_EdgesOk.j0
   exact zm1
  ·intro y0 y1 y2 y3 y4
   unfold impl_EdgesOk.l0
   exact zm1
theorem impl_EdgesOk.mono : ∀ a0 a1 k, LeO (impl_EdgesOk.f k a0 a1) (impl_EdgesOk.f (k + 1) a0 a1) := by
 intro a0 a1 k; obtain ⟨ih0, ih1⟩ := impl_EdgesOk.mono_l k; unfold impl_EdgesOk.f; exact zm1
theorem impl_EdgesOk.calls (k : Nat) (aD : Int) (aH : Option Addr) (aG : Nat) (aC : List (S57)) (r : Bool) (w : World) (hr0_1 : Kd.C k57 w aH aC.length aC) (hc0_1 : aC.length ≤ aG) (h : impl_EdgesOk.f k aD aC = some r) :
  Calls Try.prog 90 #[.agg #[.int .i64 aD, .slice aH aC.length aG]] w fun e w' => e = .returned (.bool r) ∧ Below w.heap.size w w' := by
 have hu25 := Try.underlying25; have hu57 := Try.underlying57; have bJ := zK_ hr0_1; have bE := zK_ hc0_1; clear hr0_1 hc0_1; have HB := zK_ (Below.refl w.heap.size w); have H : ((impl_within.f aD 1 6).bind fun aQ => (if aQ = true then (impl_EdgesOk.j0 k (decide ((aC.length : Int) > 12)) aD aC) else (impl_EdgesOk.j0 k true aD aC))) = some r := h; clear h; have HC2 := zK_ H; clear H; go_enter Try.func90, Try.ntmps90; (go_upto_region 1 with (first | ((with_reducible refine gate_dst (N := 1) rfl ?_); (try (refine gate_guard (by rfl) ?_; dsimp only)); refine box_event ?hg (N := 1) ?hd (cs := #[.int .i64 aD, .slice aH aC.length aG]) (t := 25) ?hr ?_; (case hd => rfl); (case hg => rfl); (case hr => exact zz9); intro aE hg w3 hbox hb; have n_ := zA4 (below_step zz1 hb) hbox (zz10 : w.heap.size ≤ aE) (zz10 : w.heap.size ≤ aE); clear HB; obtain ⟨HB, aA, GW101, GE101⟩ := n_; clear hb hbox hg))); (try simp only [Act.put, List.setIfInBounds_toArray, List.set_cons_zero, List.set_cons_succ]); go_cut [14] (fun v14 wc => ∃ (kq : Nat) (jI : Bool), v14 = .bool jI ∧ Aside0 (impl_EdgesOk.j0 kq jI aD aC = some r) ∧ Aside0 (kq ≤ k) ∧ Aside0 (wc.heap[aE]? = some (.cells #[.int .i64 aD, (.slice aH aC.length aG)] 25 (0, 0))) ∧ Aside0 (Below w.heap.size w wc))
 case first =>
  have H := HC2.out; clear HC2; obtain ⟨aQ, A40, H⟩ := zO_ H; (try dsimp only at H); have A4 := zK_ A40; clear A40; by_cases c5 : aQ = true
  ·subst c5; rw [if_pos rfl] at H; have H' := zK_ H; clear H; have eR := zC20 aA; have eQ := zC21 aA; have eK := blk_frozen aA.out 0; have eJ := blk_frozen aA.out 1; (go_wp2_with (first | ((with_reducible refine gate_callee (f := 39) rfl ?_); refine goesL_ (some 7) rfl rfl Try.func39 (by kernel_rfl) rfl #[.int .i64 aD, .int .i64 1, .int .i64 6] rfl zz3 ?_; (with_reducible refine (impl_within.calls aD 1 6 true _ A4.out).mono ?_); rintro e w' ⟨rfl, ⟨nd, rfl⟩⟩; refine ⟨_, rfl, ?_⟩))); (go_meet); case rel => exact ⟨_, (decide ((aC.length : Int) > 12)), zz5, H', ⟨by first | omega | exact Nat.le_refl _⟩, ⟨zz2⟩, ⟨zz0⟩⟩
  replace c5 := Bool.eq_false_iff.mpr c5; subst c5; rw [if_neg (show ¬ (false = true) by decide)] at H; have H' := zK_ H; clear H; have eO := zC20 aA; have eM := zC21 aA; have eI := blk_frozen aA.out 0; have eH := blk_frozen aA.out 1; (go_wp2_with (first | ((with_reducible refine gate_callee (f := 39) rfl ?_); refine goesL_ (some 7) rfl rfl Try.func39 (by kernel_rfl) rfl #[.int .i64 aD, .int .i64 1, .int .i64 6] rfl zz3 ?_; (with_reducible refine (impl_within.calls aD 1 6 false _ A4.out).mono ?_); rintro e w' ⟨rfl, ⟨nd, rfl⟩⟩; refine ⟨_, rfl, ?_⟩))); (go_meet); case rel => exact ⟨_, (true), zz5, H', ⟨by first | omega | exact Nat.le_refl _⟩, ⟨zz2⟩, ⟨zz0⟩⟩
 case rest =>
  clear HC2; (try clear p2); (try clear c3); (try clear c5); (try clear eR); (try clear eQ); (try clear eO); (try clear eM); (try clear eK); (try clear eJ); (try clear eI); (try clear eH); obtain ⟨kq, jI, rfl, HA, HJ1, aA, HB⟩ := hcut
  cases kq with
  | zero => exact absurd HA.out (by simp [impl_EdgesOk.j0])
  | succ kj1 =>
   have H := HA.out; clear HA; simp only [impl_EdgesOk.j0] at H; by_cases c8 : jI = true
   ·subst c8; rw [if_pos rfl] at H; obtain rfl := Option.some.inj H; go_wp2; go_ret; exact ⟨zz7, zz0⟩
   replace c8 := Bool.eq_false_iff.mpr c8; subst c8; rw [if_neg (show ¬ (false = true) by decide)] at H; have H' := zK_ H; clear H; have fD := zC20 aA; have fC := zC21 aA; have fB := blk_frozen aA.out 0; have fA := blk_frozen aA.out 1; go_wp2; (go_loopg [18] kj1 (fun kq v18 w' => ∃ (bR : Int), v18 = .int .i64 bR ∧ Aside0 (impl_EdgesOk.l0 kq aC (aC.length : Int) bR aD aC = some r) ∧ Aside0 (kq ≤ kj1) ∧ Aside0 (w'.heap[aE]? = some (.cells #[.int .i64 aD, (.slice aH aC.length aG)] 25 (0, 0))) ∧ Aside0 (Below w.heap.size w w'))); case atStart => exact ⟨(0), zz5, H', ⟨Nat.le_refl _⟩, ⟨zz2⟩, ⟨zz0⟩⟩
   case round =>
    clear H'; (try clear p2); (try clear c3); (try clear c5); (try clear c8); (try clear c9); (try clear eR); (try clear eQ); (try clear eO); (try clear eM); (try clear fD); (try clear fC); (try clear eK); (try clear eJ); (try clear eI); (try clear eH); (try clear fB); (try clear fA); (try clear p2); obtain ⟨bR, rfl, HA, HK2, aA, HB⟩ := hrel
    cases gk with
    | zero => exact absurd HA.out (by simp [impl_EdgesOk.l0])
    | succ k2 =>
     have H := HA.out; clear HA; simp only [impl_EdgesOk.l0] at H; by_cases c10 : bR < (aC.length : Int); rotate_left
     ·rw [if_neg c10] at H; have g3 := decide_eq_false c10; clear c10; obtain rfl := Option.some.inj H; go_wp2; go_ret; exact ⟨zz7, zz0⟩
     rw [if_pos c10] at H; have g3 := decide_eq_true c10; clear c10; by_cases c11 : 0 ≤ bR; rotate_left
     ·rw [if_neg c11] at H; exact absurd H (by simp)
     rw [if_pos c11] at H; have k5 := decide_eq_true c11; clear c11; by_cases c12 : bR < (aC.length : Int); rotate_left
     ·rw [if_neg c12] at H; exact absurd H (by simp)
     rw [if_pos c12] at H; have kZ := decide_eq_true c12; clear c12; by_cases c13 : ((rd_T57 aC bR).f0) < 0
     ·rw [if_pos c13] at H; have jE := decide_eq_true c13; clear c13; obtain rfl := Option.some.inj H; have p103 : 0 ≤ (bR : Int) := of_decide_eq_true zz4; have q103 : bR < (aC.length : Int) := of_decide_eq_true zz4; obtain ⟨bG, e103, aV, a6⟩ := at_T57 bJ.out bR p103 q103; cases e103; replace aV := (HB.out.cell (World.block_lt_of_cell? w _ aV)).trans aV; replace a6 := (HB.out.cell (World.block_lt_of_cell? w _ a6)).trans a6; replace p103 := eq_true p103; replace q103 := eq_true q103; (go_wp2_with (first | ((with_reducible refine gate_dst (N := 4) rfl ?_); (try (refine gate_guard (by rfl) ?_; dsimp only)); refine box_event ?hg (N := 4) ?hd (cs := #[.int .i64 0, .int .i64 0]) (t := 57) ?hr ?_; (case hd => rfl); (case hg => rfl); (case hr => exact zz9); intro aW hg w14 hbox hb; have n_ := zA7 (blk_below (g := aE) (o := .cells #[.int .i64 aD, .slice (some bG) aC.length aG] 25 (0, 0)) zz2 hb) (below_step zz0 hb) hbox (zz13 : w.heap.size ≤ aW) (zz13 : w.heap.size ≤ aW) (zz15 : aE ≠ aW) (zz16 : aW ≠ aE); clear aA HB; obtain ⟨aA, HB, aY, GW104, GE104, bH, bI⟩ := n_; clear hb hbox hg; have CZ := bI.out; have CC := bH.out; have gY := zC20 aY; have gX := zC21 aY; have gU := blk_frozen aY.out 0; have gT := blk_frozen aY.out 1))); go_ret; exact ⟨zz7, zz11⟩
     rw [if_neg c13] at H; have jE := decide_eq_false c13; clear c13; by_cases c17 : ((rd_T57 aC bR).f0) ≥ ((rd_T57 aC bR).f1)
     ·rw [if_pos c17] at H; have gN : decide (((rd_T57 aC bR).f1) ≤ ((rd_T57 aC bR).f0)) = true := decide_eq_true c17; clear c17; obtain rfl := Option.some.inj H; have p103 : 0 ≤ (bR : Int) := of_decide_eq_true zz4; have q103 : bR < (aC.length : Int) := of_decide_eq_true zz4; obtain ⟨bG, e103, aV, a6⟩ := at_T57 bJ.out bR p103 q103; cases e103; replace aV := (HB.out.cell (World.block_lt_of_cell? w _ aV)).trans aV; replace a6 := (HB.out.cell (World.block_lt_of_cell? w _ a6)).trans a6; replace p103 := eq_true p103; replace q103 := eq_true q103; (go_wp2_with (first | ((with_reducible refine gate_dst (N := 4) rfl ?_); (try (refine gate_guard (by rfl) ?_; dsimp only)); refine box_event ?hg (N := 4) ?hd (cs := #[.int .i64 0, .int .i64 0]) (t := 57) ?hr ?_; (case hd => rfl); (case hg => rfl); (case hr => exact zz9); intro aW hg w18 hbox hb; have n_ := zA7 (blk_below (g := aE) (o := .cells #[.int .i64 aD, .slice (some bG) aC.length aG] 25 (0, 0)) zz2 hb) (below_step zz0 hb) hbox (zz13 : w.heap.size ≤ aW) (zz13 : w.heap.size ≤ aW) (zz15 : aE ≠ aW) (zz16 : aW ≠ aE); clear aA HB; obtain ⟨aA, HB, aY, GW104, GE104, bH, bI⟩ := n_; clear hb hbox hg; have uC := bI.out; have t2 := bH.out; have gW := zC20 aY; have gV := zC21 aY; have gS := blk_frozen aY.out 0; have gR := blk_frozen aY.out 1))); go_ret; exact ⟨zz7, zz11⟩
     rw [if_neg c17] at H; have gN : decide (((rd_T57 aC bR).f1) ≤ ((rd_T57 aC bR).f0)) = false := decide_eq_false c17; clear c17; by_cases c21 : ((rd_T57 aC bR).f1) ≥ aD
     ·rw [if_pos c21] at H; have kC : decide (aD ≤ ((rd_T57 aC bR).f1)) = true := decide_eq_true c21; clear c21; obtain rfl := Option.some.inj H; have p103 : 0 ≤ (bR : Int) := of_decide_eq_true zz4; have q103 : bR < (aC.length : Int) := of_decide_eq_true zz4; obtain ⟨bG, e103, aV, a6⟩ := at_T57 bJ.out bR p103 q103; cases e103; replace aV := (HB.out.cell (World.block_lt_of_cell? w _ aV)).trans aV; replace a6 := (HB.out.cell (World.block_lt_of_cell? w _ a6)).trans a6; replace p103 := eq_true p103; replace q103 := eq_true q103; (go_wp2_with (first | ((with_reducible refine gate_dst (N := 4) rfl ?_); (try (refine gate_guard (by rfl) ?_; dsimp only)); refine box_event ?hg (N := 4) ?hd (cs := #[.int .i64 0, .int .i64 0]) (t := 57) ?hr ?_; (case hd => rfl); (case hg => rfl); (case hr => exact zz9); intro aW hg w22 hbox hb; have n_ := zA7 (blk_below (g := aE) (o := .cells #[.int .i64 aD, .slice (some bG) aC.length aG] 25 (0, 0)) zz2 hb) (below_step zz0 hb) hbox (zz13 : w.heap.size ≤ aW) (zz13 : w.heap.size ≤ aW) (zz15 : aE ≠ aW) (zz16 : aW ≠ aE); clear aA HB; obtain ⟨aA, HB, aY, GW104, GE104, bH, bI⟩ := n_; clear hb hbox hg; have uA := bI.out; have tZ := bH.out; have gF := zC20 aY; have gE := zC21 aY; have gD := blk_frozen aY.out 0; have gC := blk_frozen aY.out 1; have l5 := zC20 aA; have l4 := zC21 aA; have lW := blk_frozen aA.out 0; have lV := blk_frozen aA.out 1))); go_ret; exact ⟨zz7, zz11⟩
     rw [if_neg c21] at H; have kC : decide (aD ≤ ((rd_T57 aC bR).f1)) = false := decide_eq_false c21; clear c21; have H' := zK_ H; clear H; have p103 : 0 ≤ (bR : Int) := of_decide_eq_true zz4; have q103 : bR < (aC.length : Int) := of_decide_eq_true zz4; obtain ⟨bG, e103, aV, a6⟩ := at_T57 bJ.out bR p103 q103; cases e103; replace aV := (HB.out.cell (World.block_lt_of_cell? w _ aV)).trans aV; replace a6 := (HB.out.cell (World.block_lt_of_cell? w _ a6)).trans a6; replace p103 := eq_true p103; replace q103 := eq_true q103; (go_wp2_with (first | ((with_reducible refine gate_dst (N := 4) rfl ?_); (try (refine gate_guard (by rfl) ?_; dsimp only)); refine box_event ?hg (N := 4) ?hd (cs := #[.int .i64 0, .int .i64 0]) (t := 57) ?hr ?_; (case hd => rfl); (case hg => rfl); (case hr => exact zz9); intro aW hg w26 hbox hb; have n_ := zA7 (blk_below (g := aE) (o := .cells #[.int .i64 aD, .slice (some bG) aC.length aG] 25 (0, 0)) zz2 hb) (below_step zz0 hb) hbox (zz13 : w.heap.size ≤ aW) (zz13 : w.heap.size ≤ aW) (zz15 : aE ≠ aW) (zz16 : aW ≠ aE); clear aA HB; obtain ⟨aA, HB, aY, GW104, GE104, bH, bI⟩ := n_; clear hb hbox hg; have CU := bI.out; have B2 := bH.out; have oR := zC20 aY; have oQ := zC21 aY; have oC := blk_frozen aY.out 0; have oB := blk_frozen aY.out 1; have oP := zC20 aA; have oO := zC21 aA; have oA := blk_frozen aA.out 0; have n9 := blk_frozen aA.out 1))); go_roundg k2; (case measure => have := HJ1.out; have := HK2.out; omega); case rel => exact ⟨(wrap64 (bR + 1)), zz5, H', ⟨by have := HJ1.out; have := HK2.out; omega⟩, ⟨zz12⟩, ⟨zz11⟩⟩
end Go.Proofs.Ytnbljcgdgblgoaa.P
end

section
namespace Go.Proofs.Ytnbljcgdgblgoaa.Cf
set_option linter.unusedVariables false
set_option linter.unusedSimpArgs false
open Go.RowKit Go.Proofs.YtnbljcgdgblgoaaW.PrintWords
def Ep {α : Type} (g : Nat → Option α) (Q : α → Prop) : Prop := ∃ r, Q r ∧ ∃ K, ∀ k, K ≤ k → g k = some r
theorem Ep.now {α : Type} {Q : α → Prop} {r : α} (h : Q r) : Ep (fun _ => some r) Q := ⟨r, h, 0, fun _ _ => rfl⟩
theorem Ep.mono {α : Type} {g : Nat → Option α} {P Q : α → Prop} (h : Ep g P) (hpq : ∀ r, P r → Q r) : Ep g Q := by
 obtain ⟨r, hr, K, hK⟩ := h
 exact ⟨r, hpq r hr, K, hK⟩
theorem Ep.step {α : Type} {g f : Nat → Option α} {Q : α → Prop} (h : ∀ k, g (k + 1) = f k) (k : Ep f Q) : Ep g Q := by
 obtain ⟨r, hr, K, hK⟩ := k
 refine ⟨r, hr, K + 1, fun k hk => ?_⟩
 obtain ⟨m, rfl⟩ : ∃ m, k = m + 1 := ⟨k - 1, by omega⟩
 rw [h m]
 exact hK m (by omega)
theorem Ep.up {α : Type} {g : Nat → Option α} {Q : α → Prop} (h : Ep (fun k => g (k + 1)) Q) : Ep g Q := Ep.step (fun _ => rfl) h
theorem Ep.congr {α : Type} {g f : Nat → Option α} {Q : α → Prop} (h : ∀ k, g k = f k) (k : Ep f Q) : Ep g Q := by
 obtain ⟨r, hr, K, hK⟩ := k
 exact ⟨r, hr, K, fun k hk => (h k).trans (hK k hk)⟩
theorem Ep.bind {α β : Type} {g : Nat → Option α} {f : Nat → α → Option β} {P : α → Prop} {Q : β → Prop} (h : Ep g P) (k : ∀ a, P a → Ep (fun n => f n a) Q) : Ep (fun n => (g n).bind (f n)) Q := by
 obtain ⟨r, hr, K, hK⟩ := h
 obtain ⟨q, hq, L, hL⟩ := k r hr
 refine ⟨q, hq, max K L, fun k hk => ?_⟩
 show (g k).bind (f k) = some q
 rw [hK k (by omega)]
 exact hL k (by omega)
theorem Ep.bind0 {α β : Type} {g : Option α} {f : Nat → α → Option β} {a : α} {Q : β → Prop} (h : g = some a) (k : Ep (fun n => f n a) Q) : Ep (fun n => g.bind (f n)) Q := by
 subst h
 exact k
theorem Ep.ite {α : Type} {c : Prop} [Decidable c] {f g : Nat → Option α} {Q : α → Prop} (h : c → Ep f Q) (k : ¬ c → Ep g Q) : Ep (fun n => if c then f n else g n) Q := by
 by_cases hc : c
 ·simp only [hc, if_true]
  exact h hc
 ·simp only [hc, if_false]
  exact k hc
theorem Ep.pos {α : Type} {c : Prop} [Decidable c] {f g : Nat → Option α} {Q : α → Prop} (hc : c) (h : Ep f Q) : Ep (fun n => if c then f n else g n) Q := Ep.ite (fun _ => h) (fun k => absurd hc k)
theorem Ep.neg {α : Type} {c : Prop} [Decidable c] {f g : Nat → Option α} {Q : α → Prop} (hc : ¬ c) (h : Ep g Q) : Ep (fun n => if c then f n else g n) Q := Ep.ite (fun k => absurd k hc) (fun _ => h)
theorem Ep.rounds {α : Type} {g : Nat → Option α} {r : α} (h : Ep g (· = r)) : ∃ k, g k = some r := by
 obtain ⟨q, rfl, K, hK⟩ := h
 exact ⟨K, hK K (Nat.le_refl _)⟩
def Wf (k : IntKind) (x : Int) : Prop := (Lit.int k x).wf = true
theorem Wf.i64 {x : Int} (h : Wf .i64 x) : -9223372036854775808 ≤ x ∧ x ≤ 9223372036854775807 := by
 simpa [Wf, Lit.wf, IntKind.min, IntKind.max, IntKind.signed, IntKind.bits] using h
def SL {α : Type} (Q : α → Prop) (l : List α) : Prop := l.length ≤ 9223372036854775807 ∧ ∀ x ∈ l, Q x
theorem wrap_id {x : Int} (h0 : -9223372036854775808 ≤ x) (h1 : x ≤ 9223372036854775807) : wrap64 x = x := by
 unfold wrap64
 omega
theorem rd_nat (xs : List Int) (i : Nat) : rd xs (i : Int) = xs.getD i 0 := by simp [rd]
theorem rd_get {xs : List Int} {i : Nat} (h : i < xs.length) : rd xs (i : Int) = xs[i] := by simp [rd, List.getD, h]
end Go.Proofs.Ytnbljcgdgblgoaa.Cf
end

section
namespace Go.Proofs.Ytnbljcgdgblgoaa.Cf
set_option linter.unusedVariables false
set_option linter.unusedSimpArgs false
def Adj (es : List E) (a b : Int) : Prop := ∃ e ∈ es, (e.f0 = a ∧ e.f1 = b) ∨ (e.f0 = b ∧ e.f1 = a)
theorem Adj.symm {es : List E} {a b : Int} (h : Adj es a b) : Adj es b a := by
 obtain ⟨e, he, h⟩ := h
 exact ⟨e, he, h.symm⟩
inductive Conn (es : List E) (a : Int) : Int → Prop
 | refl : Conn es a a
 | tail {b c : Int} : Conn es a b → Adj es b c → Conn es a c
theorem Conn.trans {es : List E} {a b c : Int} (h : Conn es a b) (k : Conn es b c) : Conn es a c := by
 induction k with
 | refl => exact h
 | tail _ hadj ih => exact ih.tail hadj
theorem Conn.one {es : List E} {a b : Int} (h : Adj es a b) : Conn es a b := Conn.refl.tail h
theorem Conn.symm {es : List E} {a b : Int} (h : Conn es a b) : Conn es b a := by
 induction h with
 | refl => exact .refl
 | tail _ hadj ih => exact (Conn.one hadj.symm).trans ih
theorem Conn.closed {es : List E} {S : Int → Prop} (hS : ∀ a b, S a → Adj es a b → S b) {a b : Int} (h : Conn es a b) (ha : S a) : S b := by
 induction h with
 | refl => exact ha
 | tail _ hadj ih => exact hS _ _ ih hadj
def EOk (n : Int) (e : E) : Prop := 0 ≤ e.f0 ∧ e.f0 < e.f1 ∧ e.f1 < n
instance decEOk (n : Int) (e : E) : Decidable (EOk n e) := by unfold EOk; infer_instance
def EsOk (n : Int) (es : List E) : Prop := 1 ≤ n ∧ n ≤ 6 ∧ es.length ≤ 12 ∧ ∀ e ∈ es, EOk n e
instance decEsOk (n : Int) (es : List E) : Decidable (EsOk n es) := by unfold EsOk; infer_instance
def leE (a b : E) : Prop := a.f0 < b.f0 ∨ (a.f0 = b.f0 ∧ a.f1 ≤ b.f1)
instance decLeE (a b : E) : Decidable (leE a b) := by unfold leE; infer_instance
def Sorted (es : List E) : Prop := ∀ i, (h : i + 1 < es.length) → leE es[i] es[i + 1]
def Joined (n : Int) (es : List E) : Prop := ∀ v, 0 ≤ v → v < n → Conn es 0 v
def GOk (n : Int) (es : List E) : Prop := EsOk n es ∧ Sorted es ∧ Joined n es
instance decSorted (es : List E) : Decidable (Sorted es) := decidable_of_iff (∀ i, (h : i < es.length - 1) → leE (es[i]'(by omega)) (es[i + 1]'(by omega))) ⟨fun h i hi => h i (by omega), fun h i hi => h i (by omega)⟩
theorem EsOk.adj {n : Int} {es : List E} (h : ∀ e ∈ es, EOk n e) {a b : Int} (hab : Adj es a b) : 0 ≤ b ∧ b < n := by
 obtain ⟨e, he, hx⟩ := hab
 have := h e he
 unfold EOk at this
 omega
def stepM (m : Nat) (e : E) : Nat := if m.testBit e.f0.toNat || m.testBit e.f1.toNat then m ||| (2 ^ e.f0.toNat ||| 2 ^ e.f1.toNat) else m
def roundM (es : List E) (m : Nat) : Nat := es.foldl stepM m
def timesM (es : List E) : Nat → Nat → Nat
 | 0, m => m
 | k + 1, m => timesM es k (roundM es m)
theorem testBit_step {m : Nat} {e : E} {i : Nat} : (stepM m e).testBit i = (m.testBit i || ((m.testBit e.f0.toNat || m.testBit e.f1.toNat) && (i == e.f0.toNat || i == e.f1.toNat))) := by
 unfold stepM
 by_cases h : (m.testBit e.f0.toNat || m.testBit e.f1.toNat) = true
 ·rw [if_pos h, h]
  simp only [Nat.testBit_or, Nat.testBit_two_pow, Bool.true_and]
  congr 1
  rw [Bool.eq_iff_iff]
  simp only [Bool.or_eq_true, decide_eq_true_eq, beq_iff_eq]
  omega
 ·rw [if_neg h]
  simp only [Bool.not_eq_true] at h
  rw [h]
  simp
theorem step_mono {m : Nat} {e : E} {i : Nat} (h : m.testBit i = true) : (stepM m e).testBit i = true := by rw [testBit_step, h]; rfl
theorem round_mono (es : List E) : ∀ {m : Nat} {i : Nat}, m.testBit i = true → (roundM es m).testBit i = true := by
 induction es with
 | nil => intro m i h; exact h
 | cons e r ih => intro m i h; exact ih (step_mono h)
theorem times_mono (es : List E) : ∀ (k : Nat) {m : Nat} {i : Nat}, m.testBit i = true → (timesM es k m).testBit i = true
 | 0, _, _, h => h
 | k + 1, _, _, h => times_mono es k (round_mono es h)
def MOk (es : List E) (n : Int) (m : Nat) : Prop := ∀ i : Nat, m.testBit i = true → (i : Int) < n ∧ Conn es 0 i
theorem step_ok {es : List E} {n : Int} {m : Nat} {e : E} (he : e ∈ es) (hk : EOk n e) (h : MOk es n m) : MOk es n (stepM m e) := by
 intro i hi
 rw [testBit_step] at hi
 simp only [Bool.or_eq_true, Bool.and_eq_true, beq_iff_eq] at hi
 unfold EOk at hk
 have e0 : ((e.f0.toNat : Nat) : Int) = e.f0 := by omega
 have e1 : ((e.f1.toNat : Nat) : Int) = e.f1 := by omega
 rcases hi with hi | ⟨hm, hi⟩
 ·exact h i hi
 ·have key : Conn es 0 e.f0 ∧ Conn es 0 e.f1 := by
   rcases hm with hm | hm
   ·have := (h _ hm).2
    rw [e0] at this
    exact ⟨this, this.tail ⟨e, he, .inl ⟨rfl, rfl⟩⟩⟩
   ·have := (h _ hm).2
    rw [e1] at this
    exact ⟨this.tail ⟨e, he, .inr ⟨rfl, rfl⟩⟩, this⟩
  rcases hi with hi | hi
  ·subst hi
   rw [e0]
   exact ⟨by omega, key.1⟩
  ·subst hi
   rw [e1]
   exact ⟨by omega, key.2⟩
theorem round_ok {es : List E} {n : Int} (hes : ∀ e ∈ es, EOk n e) : ∀ (fs : List E), (∀ e ∈ fs, e ∈ es) → ∀ {m : Nat}, MOk es n m → MOk es n (roundM fs m) := by
 intro fs
 induction fs with
 | nil => intro _ m h; exact h
 | cons e r ih =>
  intro hs m h
  have he := hs e (List.mem_cons_self)
  exact ih (fun x hx => hs x (List.mem_cons_of_mem _ hx)) (step_ok he (hes e he) h)
theorem times_ok {es : List E} {n : Int} (hes : ∀ e ∈ es, EOk n e) : ∀ (k : Nat) {m : Nat}, MOk es n m → MOk es n (timesM es k m)
 | 0, _, h => h
 | k + 1, _, h => times_ok hes k (round_ok hes es (fun _ h => h) h)
def cnt (n : Nat) (m : Nat) : Nat := (List.range n).countP (m.testBit ·)
theorem cnt_le (n m : Nat) : cnt n m ≤ n := by
 unfold cnt
 have := List.countP_le_length (p := fun i => m.testBit i) (l := List.range n)
 simpa using this
theorem countP_lt {α : Type} {p q : α → Bool} : ∀ {l : List α}, (∀ x ∈ l, p x = true → q x = true) → (∃ x ∈ l, p x = false ∧ q x = true) → l.countP p < l.countP q
 | [], _, h => by obtain ⟨x, hx, _⟩ := h; cases hx
 | y :: r, hpq, h => by
  have hle : r.countP p ≤ r.countP q := List.countP_mono_left (fun x hx => hpq x (List.mem_cons_of_mem _ hx))
  simp only [List.countP_cons]
  by_cases hy : p y = false ∧ q y = true
  ·rw [hy.1, hy.2]
   simp
   omega
  ·have hr : r.countP p < r.countP q := by
    apply countP_lt (fun x hx => hpq x (List.mem_cons_of_mem _ hx))
    obtain ⟨x, hx, h1⟩ := h
    rcases List.mem_cons.1 hx with rfl | hx
    ·exact absurd h1 hy
    ·exact ⟨x, hx, h1⟩
   have h2 := hpq y List.mem_cons_self
   by_cases hp : p y = true
   ·rw [hp, h2 hp]
    simp
    omega
   ·simp only [hp, if_false, Bool.not_eq_true] at *
    simp
    split <;> omega
theorem cnt_lt {n m m' : Nat} (h : ∀ i, m.testBit i = true → m'.testBit i = true) (hx : ∃ i, i < n ∧ m.testBit i = false ∧ m'.testBit i = true) : cnt n m < cnt n m' := by
 obtain ⟨i, hi, h1⟩ := hx
 exact countP_lt (fun x _ => h x) ⟨i, List.mem_range.2 hi, h1⟩
theorem round_fix_step {es : List E} : ∀ (fs : List E) {m : Nat}, (∀ i, (roundM fs m).testBit i = true → m.testBit i = true) → ∀ e ∈ fs, m.testBit e.f0.toNat = m.testBit e.f1.toNat := by
 intro fs
 induction fs with
 | nil => intro m _ e he; cases he
 | cons a r ih =>
  intro m h e he
  have hst : ∀ i, (stepM m a).testBit i = true → m.testBit i = true := fun i hi => h i (round_mono r hi)
  have heq : stepM m a = m := by
   apply Nat.eq_of_testBit_eq
   intro i
   rw [Bool.eq_iff_iff]
   exact ⟨hst i, step_mono⟩
  rcases List.mem_cons.1 he with rfl | he
  ·have h0 := hst e.f0.toNat
   have h1 := hst e.f1.toNat
   rw [testBit_step] at h0 h1
   simp only [beq_self_eq_true, Bool.true_or, Bool.or_true, Bool.and_true, Bool.or_eq_true] at h0 h1
   rw [Bool.eq_iff_iff]
   exact ⟨fun hx => h1 (.inr (.inl hx)), fun hx => h0 (.inr (.inr hx))⟩
  ·have : roundM (a :: r) m = roundM r m := by show roundM r (stepM m a) = _; rw [heq]
   exact ih (fun i hi => h i (by rw [this]; exact hi)) e he
theorem closed_of_fix {es : List E} {n : Int} (hes : ∀ e ∈ es, EOk n e) {m : Nat} (h : ∀ i, (roundM es m).testBit i = true → m.testBit i = true) (h0 : m.testBit 0 = true) (i : Nat) (hi : Conn es 0 i) : m.testBit i = true := by
 have hf := round_fix_step (es := es) es h
 have key : ∀ v : Int, Conn es 0 v → 0 ≤ v ∧ m.testBit v.toNat = true := by
  intro v hv
  refine hv.closed (S := fun v => 0 ≤ v ∧ m.testBit v.toNat = true) ?_ ⟨by omega, h0⟩
  rintro a b ⟨ha, hb⟩ ⟨e, he, hx⟩
  have hk := hes e he
  unfold EOk at hk
  rcases hx with ⟨h1, h2⟩ | ⟨h1, h2⟩
  ·subst h1; subst h2
   exact ⟨by omega, by rw [← hf e he]; exact hb⟩
  ·subst h1; subst h2
   exact ⟨by omega, by rw [hf e he]; exact hb⟩
 have := (key i hi).2
 simpa using this
theorem times_grow {es : List E} {n : Nat} (hes : ∀ e ∈ es, EOk n e) : ∀ (k : Nat) {m : Nat}, MOk es n m → m.testBit 0 = true →
  (∀ i : Nat, Conn es 0 i → (timesM es k m).testBit i = true) ∨ k + cnt n m ≤ cnt n (timesM es k m)
 | 0, m, _, _ => .inr (by simp [timesM])
 | k + 1, m, hm, h0 => by
  by_cases hfix : ∀ i, (roundM es m).testBit i = true → m.testBit i = true
  ·left
   intro i hi
   exact times_mono es (k + 1) (closed_of_fix hes hfix h0 i hi)
  ·obtain ⟨i, hi⟩ := Classical.not_forall.1 hfix
   have hi1 : (roundM es m).testBit i = true := Classical.byContradiction fun hc => hi (fun x => absurd x hc)
   have hi2 : m.testBit i = false := by
    cases hb : m.testBit i with
    | false => rfl
    | true => exact absurd (fun _ => hb) hi
   have hok := round_ok hes es (fun _ h => h) hm
   have hlt : cnt n m < cnt n (roundM es m) := cnt_lt (fun j hj => round_mono es hj) ⟨i, by have := (hok i hi1).1; omega, hi2, hi1⟩
   rcases times_grow hes k hok (round_mono es h0) with h | h
   ·exact .inl h
   ·right
    show k + 1 + _ ≤ cnt n (timesM es k (roundM es m))
    omega
theorem cnt_full {n m : Nat} (h : n ≤ cnt n m) : ∀ i, i < n → m.testBit i = true := by
 intro i hi
 apply Classical.byContradiction
 intro hc
 have hc' : m.testBit i = false := by simpa using hc
 have : cnt n m < cnt n (2 ^ n - 1) := by
  refine countP_lt (fun x hx _ => ?_) ⟨i, List.mem_range.2 hi, hc', ?_⟩
  ·rw [Nat.testBit_two_pow_sub_one]; simpa using hx
  ·rw [Nat.testBit_two_pow_sub_one]; simpa using hi
 have := cnt_le n (2 ^ n - 1)
 omega
theorem times_joined {es : List E} {n : Nat} (h1 : 1 ≤ n) (hes : ∀ e ∈ es, EOk n e) : timesM es n 1 = 2 ^ n - 1 ↔ Joined n es := by
 have hm1 : MOk es n 1 := by
  intro i hi
  have : i = 0 := by simpa [Nat.testBit_one_eq_true_iff_self_eq_zero] using hi
  subst this
  exact ⟨by omega, .refl⟩
 have h0 : (1 : Nat).testBit 0 = true := by decide
 have hok := times_ok hes n hm1
 constructor
 ·intro h v hv0 hvn
  have := hok v.toNat (by rw [h, Nat.testBit_two_pow_sub_one]; simp; omega)
  have e : ((v.toNat : Nat) : Int) = v := by omega
  rw [e] at this
  exact this.2
 ·intro hj
  have hall : ∀ i, i < n → (timesM es n 1).testBit i = true := by
   rcases times_grow hes n hm1 h0 with h | h
   ·exact fun i hi => h i (hj i (by omega) (by omega))
   ·have : n ≤ cnt n (timesM es n 1) := by omega
    exact cnt_full this
  apply Nat.eq_of_testBit_eq
  intro i
  rw [Nat.testBit_two_pow_sub_one, Bool.eq_iff_iff]
  simp only [decide_eq_true_eq]
  refine ⟨fun h => ?_, fun h => hall i h⟩
  have := (hok i h).1
  omega
def gOk (n : Int) (es : List E) : Bool := decide (EsOk n es) && (decide (Sorted es) && decide (timesM es n.toNat 1 = 2 ^ n.toNat - 1))
theorem gOk_iff {n : Int} {es : List E} : gOk n es = true ↔ GOk n es := by
 unfold gOk GOk
 simp only [Bool.and_eq_true, decide_eq_true_eq]
 constructor
 ·rintro ⟨h1, h2, h3⟩
  have h := h1
  unfold EsOk at h
  obtain ⟨m, rfl⟩ := Int.eq_ofNat_of_zero_le (a := n) (by omega)
  exact ⟨h1, h2, (times_joined (n := m) (by omega) h.2.2.2).1 h3⟩
 ·rintro ⟨h1, h2, h3⟩
  have h := h1
  unfold EsOk at h
  obtain ⟨m, rfl⟩ := Int.eq_ofNat_of_zero_le (a := n) (by omega)
  exact ⟨h1, h2, (times_joined (n := m) (by omega) h.2.2.2).2 h3⟩
def QOk (es : List E) (n : Int) (q : List Int) : Prop := q.Nodup ∧ ∀ v ∈ q, (0 ≤ v ∧ v < n) ∧ Conn es 0 v
theorem nodup_len : ∀ (n : Nat) (l : List Int), l.Nodup → (∀ v ∈ l, 0 ≤ v ∧ v < n) → l.length ≤ n
 | 0, l, _, hv => by
  cases l with
  | nil => exact Nat.le_refl _
  | cons a r => have := hv a List.mem_cons_self; omega
 | n + 1, l, hl, hv => by
  by_cases hm : (n : Int) ∈ l
  ·have h1 := nodup_len n (l.erase n) (hl.erase _) (fun v hx => by
    have h2 := (hl.mem_erase_iff).1 hx
    have := hv v h2.2
    have := h2.1
    omega)
   rw [List.length_erase_of_mem hm] at h1
   omega
  ·have := nodup_len n l hl (fun v hx => by
    have := hv v hx
    have : v ≠ n := by rintro rfl; exact hm hx
    omega)
   omega
theorem len_nodup : ∀ (n : Nat) (l : List Int), (∀ i : Nat, i < n → (i : Int) ∈ l) → n ≤ l.length
 | 0, _, _ => Nat.zero_le _
 | n + 1, l, h => by
  have hm := h n (by omega)
  have := len_nodup n (l.erase n) (fun i hi => (List.mem_erase_of_ne (by omega)).2 (h i (by omega)))
  rw [List.length_erase_of_mem hm] at this
  have : 0 < l.length := List.length_pos_of_mem hm
  omega
theorem queue_joined {es : List E} {n : Nat} (h1 : 1 ≤ n) {q : List Int} (hq : QOk es n q) (h0 : (0 : Int) ∈ q) (hc : ∀ a ∈ q, ∀ b, Adj es a b → b ∈ q) : q.length = n ↔ Joined n es := by
 constructor
 ·intro hl v hv0 hvn
  have : v ∈ q := by
   apply Classical.byContradiction
   intro hv
   have := nodup_len n (v :: q) (List.nodup_cons.2 ⟨hv, hq.1⟩) (fun x hx => by
    rcases List.mem_cons.1 hx with rfl | hx
    ·exact ⟨hv0, hvn⟩
    ·exact (hq.2 x hx).1)
   simp at this
   omega
  exact (hq.2 v this).2
 ·intro hj
  have := nodup_len n q hq.1 (fun x hx => (hq.2 x hx).1)
  have := len_nodup n q (fun i hi => (hj i (by omega) (by omega)).closed (S := fun x => x ∈ q) (fun a b ha hab => hc a ha b hab) h0)
  omega
theorem QOk.push {es : List E} {n : Int} {q : List Int} (h : QOk es n q) {v : Int} (hv : v ∉ q) (h0 : 0 ≤ v ∧ v < n) (hc : Conn es 0 v) : QOk es n (q ++ [v]) := by
 refine ⟨?_, fun x hx => ?_⟩
 ·rw [List.nodup_append]
  exact ⟨h.1, by simp, fun a ha b hb => by
   rw [List.mem_singleton.1 hb]
   rintro rfl
   exact hv ha⟩
 ·rcases List.mem_append.1 hx with hx | hx
  ·exact h.2 x hx
  ·rw [List.mem_singleton.1 hx]
   exact ⟨h0, hc⟩
end Go.Proofs.Ytnbljcgdgblgoaa.Cf
end

section
namespace Go.Proofs.Ytnbljcgdgblgoaa.Cf
set_option linter.unusedVariables false
set_option linter.unusedSimpArgs false
open Go.RowKit Go.Proofs.YtnbljcgdgblgoaaW.PrintWords Go.Proofs.Ytnbljcgdgblgoaa.P
theorem wrap_succ {i : Nat} (h : i < 4611686018427387904) : wrap64 ((i : Int) + 1) = ((i + 1 : Nat) : Int) := by
 rw [wrap_id (by omega) (by omega)]
 omega
theorem eqIntS_l0 (x0 x1 : List Int) (h : x0.length ≤ 1048576) (hl : x0.length = x1.length) : ∀ (d i : Nat), i + d = x0.length → (∀ j, j < i → x0[j]? = x1[j]?) → Ep (fun k => laws_eqIntS.l0 k x0 x1 (i : Int)) (· = decide (x0 = x1)) := by
 intro d
 induction d with
 | zero =>
  intro i hi hx
  refine Ep.up ?_
  simp only [laws_eqIntS.l0]
  refine Ep.neg (by omega) (Ep.now ?_)
  have : x0 = x1 := by
   apply List.ext_getElem?
   intro j
   by_cases hj : j < i
   ·exact hx j hj
   ·rw [List.getElem?_eq_none (by omega), List.getElem?_eq_none (by omega)]
  simp [this]
 | succ d ih =>
  intro i hi hx
  refine Ep.up ?_
  simp only [laws_eqIntS.l0]
  refine Ep.pos (by omega) (Ep.pos (by omega) (Ep.pos (by omega) ?_))
  rw [rd_get (show i < x0.length by omega), rd_get (show i < x1.length by omega), wrap_succ (by omega)]
  refine Ep.ite (fun e => ?_) (fun e => Ep.now ?_)
  ·refine ih (i + 1) (by omega) ?_
   intro j hj
   by_cases ej : j = i
   ·subst ej
    rw [List.getElem?_eq_getElem (by omega), List.getElem?_eq_getElem (by omega), e]
   ·exact hx j (by omega)
  ·have : x0 ≠ x1 := by
    rintro rfl
    exact e rfl
   simp [this]
theorem eqIntS_any (x0 x1 : List Int) (h : x0.length ≤ 1048576) : Ep (fun k => laws_eqIntS.f k x0 x1) (· = decide (x0 = x1)) := by
 simp only [laws_eqIntS.f]
 refine Ep.ite (fun e => eqIntS_l0 x0 x1 h (by omega) x0.length 0 (by omega) (fun j hj => by omega)) (fun e => Ep.now ?_)
 have : x0 ≠ x1 := by
  rintro rfl
  exact e rfl
 simp [this]
theorem eqIntS_ok (x : List Int) (h : x.length ≤ 1048576) : Ep (fun k => laws_eqIntS.f k x x) (· = true) := (eqIntS_any x x h).mono (fun r hr => by rw [hr]; simp)
def marks (k : Int) (n : Nat) : List Int := (List.range n).map (fun i : Nat => k + i)
theorem marks_len (k : Int) (n : Nat) : (marks k n).length = n := by simp [marks]
theorem marks_get {k : Int} {n i : Nat} (h : i < n) : (marks k n)[i]? = some (k + i) := by simp [marks, h]
theorem markIntS_l0 (n : Nat) (a : Int) (hn : n ≤ 1048576) (ha : 0 ≤ a ∧ a ≤ 1099511627776) : ∀ (d i : Nat) (x0 : List Int), i + d = n → x0.length = n → (∀ j, j < i → x0[j]? = (marks a n)[j]?) → Ep (fun k => laws_markIntS.l0 k x0 (a + i) (i : Int)) (· = (a + n, marks a n)) := by
 intro d
 induction d with
 | zero =>
  intro i x0 hi hl hx
  refine Ep.up ?_
  simp only [laws_markIntS.l0]
  refine Ep.neg (by omega) (Ep.now ?_)
  have : x0 = marks a n := by
   apply List.ext_getElem?
   intro j
   by_cases hj : j < i
   ·exact hx j hj
   ·rw [List.getElem?_eq_none (by omega), List.getElem?_eq_none (by rw [marks_len]; omega)]
  rw [this]
  have : i = n := by omega
  rw [this]
 | succ d ih =>
  intro i x0 hi hl hx
  refine Ep.up ?_
  simp only [laws_markIntS.l0]
  refine Ep.pos (by omega) (Ep.pos (by omega) ?_)
  rw [wrap_succ (by omega), wrap_id (x := a + i + 1) (by omega) (by omega), show a + (i : Int) + 1 = a + ((i + 1 : Nat) : Int) by omega]
  refine ih (i + 1) _ (by omega) (by simpa using hl) ?_
  intro j hj
  rw [Int.toNat_natCast]
  by_cases e : i = j
  ·subst e
   rw [List.getElem?_set_self (by omega), marks_get (by omega)]
  ·rw [List.getElem?_set_ne e]
   exact hx j (by omega)
theorem markIntS_ok (x : List Int) (a : Int) (h : x.length ≤ 1048576) (ha : 0 ≤ a ∧ a ≤ 1099511627776) : Ep (fun k => laws_markIntS.f k x a) (· = (a + x.length, marks a x.length)) := by
 have := markIntS_l0 x.length a h ha x.length 0 x (by omega) rfl (fun j hj => by omega)
 simp only [laws_markIntS.f]
 simpa using this
theorem heldIntS_l0 (n : Nat) (a : Int) (hn : n ≤ 1048576) (ha : 0 ≤ a ∧ a ≤ 1099511627776) : ∀ (d i : Nat), i + d = n → Ep (fun k => laws_heldIntS.l0 k (marks a n) (a + i) (i : Int)) (· = a + n) := by
 intro d
 induction d with
 | zero =>
  intro i hi
  refine Ep.up ?_
  simp only [laws_heldIntS.l0]
  refine Ep.neg (by rw [marks_len]; omega) (Ep.now ?_)
  have : i = n := by omega
  rw [this]
 | succ d ih =>
  intro i hi
  refine Ep.up ?_
  simp only [laws_heldIntS.l0]
  refine Ep.pos (by rw [marks_len]; omega) (Ep.pos (by omega) (Ep.pos ?_ ?_))
  ·rw [rd_nat, List.getD_eq_getElem?_getD, marks_get (by omega)]
   rfl
  ·rw [wrap_succ (by omega), wrap_id (x := a + i + 1) (by omega) (by omega), show a + (i : Int) + 1 = a + ((i + 1 : Nat) : Int) by omega]
   exact ih (i + 1) (by omega)
theorem heldIntS_ok (n : Nat) (a : Int) (h : n ≤ 1048576) (ha : 0 ≤ a ∧ a ≤ 1099511627776) : Ep (fun k => laws_heldIntS.f k (marks a n) a) (· = a + n) := by
 have := heldIntS_l0 n a h ha n 0 (by omega)
 simp only [laws_heldIntS.f]
 simpa using this
theorem rdE_get {es : List E} {i : Nat} (h : i < es.length) : rd_T57 es (i : Int) = es[i] := by simp [rd_T57, List.getD, h]
theorem l01In_eq (a b c : Int) : spec_l01In.f a b c = some (decide (b ≤ a ∧ a ≤ c)) := by
 unfold spec_l01In.f
 by_cases h : a ≥ b
 ·rw [if_pos h]
  have : (b ≤ a ∧ a ≤ c) ↔ a ≤ c := ⟨fun x => x.2, fun x => ⟨h, x⟩⟩
  simp only [this]
 ·rw [if_neg h]
  have : ¬ (b ≤ a ∧ a ≤ c) := fun x => h x.1
  simp only [this, decide_false]
theorem forall_drop {es : List E} {P : E → Prop} {i : Nat} (h : i < es.length) : (∀ e ∈ es.drop i, P e) ↔ (P es[i] ∧ ∀ e ∈ es.drop (i + 1), P e) := by
 rw [List.drop_eq_getElem_cons h]
 simp only [List.mem_cons, forall_eq_or_imp]
theorem specEdges_l0 (n : Int) (hn : 1 ≤ n ∧ n ≤ 6) (es : List E) (hl : es.length ≤ 12) : ∀ (d i : Nat), i + d = es.length → Ep (fun k => spec_EdgesOk.l0 k es (es.length : Int) (i : Int) n es) (· = decide (∀ e ∈ es.drop i, EOk n e)) := by
 intro d
 induction d with
 | zero =>
  intro i hi
  refine Ep.up ?_
  simp only [spec_EdgesOk.l0]
  refine Ep.neg (by omega) (Ep.now ?_)
  rw [List.drop_of_length_le (by omega)]
  simp
 | succ d ih =>
  intro i hi
  have hlt : i < es.length := by omega
  refine Ep.up ?_
  simp only [spec_EdgesOk.l0]
  refine Ep.pos (by omega) (Ep.pos (by omega) (Ep.pos (by omega) ?_))
  rw [rdE_get hlt, wrap_id (x := n - 1) (by omega) (by omega)]
  refine Ep.bind0 (l01In_eq _ _ _) ?_
  refine Ep.ite (fun h0 => ?_) (fun h0 => Ep.now ?_)
  ·have h0' : 0 ≤ es[i].f0 ∧ es[i].f0 ≤ n - 1 := by simpa using h0
   rw [wrap_id (x := es[i].f0 + 1) (by omega) (by omega)]
   refine Ep.bind0 (l01In_eq _ _ _) ?_
   refine Ep.ite (fun h1 => ?_) (fun h1 => Ep.now ?_)
   ·have h1' : es[i].f0 + 1 ≤ es[i].f1 ∧ es[i].f1 ≤ n - 1 := by simpa using h1
    rw [wrap_succ (by omega)]
    refine (ih (i + 1) (by omega)).mono ?_
    rintro _ rfl
    have : EOk n es[i] := by unfold EOk; omega
    simp only [forall_drop hlt, this, true_and]
   ·have h1' : ¬ (es[i].f0 + 1 ≤ es[i].f1 ∧ es[i].f1 ≤ n - 1) := by simpa using h1
    have : ¬ EOk n es[i] := by unfold EOk; omega
    simp only [forall_drop hlt, this, false_and, decide_false]
  ·have h0' : ¬ (0 ≤ es[i].f0 ∧ es[i].f0 ≤ n - 1) := by simpa using h0
   have : ¬ EOk n es[i] := by unfold EOk; omega
   simp only [forall_drop hlt, this, false_and, decide_false]
theorem specEdges (n : Int) (es : List E) : Ep (fun k => spec_EdgesOk.f k n es) (· = decide (EsOk n es)) := by
 simp only [spec_EdgesOk.f]
 refine Ep.bind0 (l01In_eq _ _ _) ?_
 refine Ep.ite (fun h0 => ?_) (fun h0 => ?_)
 ·have h0' : 1 ≤ n ∧ n ≤ 6 := by simpa using h0
  refine Ep.up ?_
  simp only [spec_EdgesOk.j0]
  refine Ep.ite (fun h1 => Ep.now ?_) (fun h1 => ?_)
  ·have : ¬ EsOk n es := by
    have : (es.length : Int) > 12 := by simpa using h1
    unfold EsOk
    omega
   simp [this]
  ·have hl : es.length ≤ 12 := by
    have : ¬ (es.length : Int) > 12 := by simpa using h1
    omega
   refine (specEdges_l0 n h0' es hl es.length 0 (by omega)).mono ?_
   rintro _ rfl
   rw [List.drop_zero]
   unfold EsOk
   simp only [h0'.1, h0'.2, hl, true_and]
 ·have h0' : ¬ (1 ≤ n ∧ n ≤ 6) := by simpa using h0
  refine Ep.up ?_
  simp only [spec_EdgesOk.j0]
  refine Ep.pos (by simp) (Ep.now ?_)
  have : ¬ EsOk n es := by
   unfold EsOk
   omega
  simp [this]
theorem specHas_l0 (x : Int) (l : List Int) (hl : l.length ≤ 1048576) : ∀ (d i : Nat), i + d = l.length → Ep (fun k => spec_l02Has.l0 k x l (l.length : Int) (i : Int)) (· = decide (x ∈ l.drop i)) := by
 intro d
 induction d with
 | zero =>
  intro i hi
  refine Ep.up ?_
  simp only [spec_l02Has.l0]
  refine Ep.neg (by omega) (Ep.now ?_)
  rw [List.drop_of_length_le (by omega)]
  simp
 | succ d ih =>
  intro i hi
  have hlt : i < l.length := by omega
  refine Ep.up ?_
  simp only [spec_l02Has.l0]
  refine Ep.pos (by omega) (Ep.pos (by omega) (Ep.pos (by omega) ?_))
  rw [rd_get hlt, wrap_succ (by omega), List.drop_eq_getElem_cons hlt]
  refine Ep.ite (fun h => Ep.now ?_) (fun h => ?_)
  ·simp only [List.mem_cons, h, true_or, decide_true]
  ·refine (ih (i + 1) (by omega)).mono ?_
   rintro _ rfl
   have : ¬ x = l[i] := fun e => h e.symm
   simp only [List.mem_cons, this, false_or]
theorem specHas (l : List Int) (x : Int) (hl : l.length ≤ 1048576) : Ep (fun k => spec_l02Has.f k l x) (· = decide (x ∈ l)) := by
 have := specHas_l0 x l hl l.length 0 (by omega)
 simp only [spec_l02Has.f]
 exact this
structure BInv (es : List E) (n : Nat) (q : List Int) (a i : Nat) (u : Int) : Prop where
 ok : QOk es n q
 zero : (0 : Int) ∈ q
 done : ∀ x ∈ q.take a, ∀ b, Adj es x b → b ∈ q
 at_ : q[a]? = some u
 part : ∀ e ∈ es.take i, (e.f0 = u → e.f1 ∈ q) ∧ (e.f1 = u → e.f0 ∈ q)
theorem BInv.lt {es : List E} {n : Nat} {q : List Int} {a i : Nat} {u : Int} (h : BInv es n q a i u) : a < q.length := by
 apply Classical.byContradiction
 intro hc
 have := h.at_
 rw [List.getElem?_eq_none (by omega)] at this
 cases this
theorem BInv.len {es : List E} {n : Nat} {q : List Int} {a i : Nat} {u : Int} (h : BInv es n q a i u) : q.length ≤ n := nodup_len n q h.ok.1 (fun v hv => (h.ok.2 v hv).1)
theorem BInv.rd {es : List E} {n : Nat} {q : List Int} {a i : Nat} {u : Int} (h : BInv es n q a i u) : rd q (a : Int) = u := by
 rw [rd_nat, List.getD_eq_getElem?_getD, h.at_]
 rfl
theorem BInv.push {es : List E} {n : Nat} {q : List Int} {a i : Nat} {u v : Int} (hes : ∀ e ∈ es, EOk n e) (h : BInv es n q a i u) (hv : v ∉ q) (hadj : Adj es u v) : BInv es n (q ++ [v]) a i u where
 ok := by
  have hu : u ∈ q := List.mem_of_getElem? h.at_
  exact h.ok.push hv (EsOk.adj hes hadj) ((h.ok.2 u hu).2.tail hadj)
 zero := List.mem_append_left _ h.zero
 done := fun x hx b hb => by
  rw [List.take_append_of_le_length (by have := h.lt; omega)] at hx
  exact List.mem_append_left _ (h.done x hx b hb)
 at_ := by rw [List.getElem?_append_left h.lt]; exact h.at_
 part := fun e he => ⟨fun x => List.mem_append_left _ ((h.part e he).1 x), fun x => List.mem_append_left _ ((h.part e he).2 x)⟩
theorem BInv.next {es : List E} {n : Nat} {q : List Int} {a i : Nat} {u : Int} (h : BInv es n q a i u) (hi : i < es.length) (h0 : es[i].f0 = u → es[i].f1 ∈ q) (h1 : es[i].f1 = u → es[i].f0 ∈ q) : BInv es n q a (i + 1) u where
 ok := h.ok
 zero := h.zero
 done := h.done
 at_ := h.at_
 part := fun e he => by
  rw [List.take_succ_eq_append_getElem hi] at he
  rcases List.mem_append.1 he with he | he
  ·exact h.part e he
  ·rw [List.mem_singleton.1 he]
   exact ⟨h0, h1⟩
theorem specReach_l1 (n : Nat) (hn : n ≤ 6) (es : List E) (hl : es.length ≤ 12) (hes : ∀ e ∈ es, EOk n e) (a : Nat) (u : Int) {Q : List Int → Prop}
  (hk : ∀ q, BInv es n q a es.length u → Ep (fun k => spec_l02Reach.l0 k q ((a + 1 : Nat) : Int) (n : Int) es) Q) :
  ∀ (d i : Nat) (q : List Int), i + d = es.length → BInv es n q a i u → Ep (fun k => spec_l02Reach.l1 k q (a : Int) es (es.length : Int) (i : Int) (n : Int) es) Q := by
 intro d
 induction d with
 | zero =>
  intro i q hi hb
  refine Ep.up ?_
  simp only [spec_l02Reach.l1]
  refine Ep.neg (by omega) ?_
  have := hb.lt
  have := hb.len
  rw [wrap_succ (by omega)]
  have e : i = es.length := by omega
  subst e
  exact hk q hb
 | succ d ih =>
  intro i q hi hb
  have hlt : i < es.length := by omega
  have hal := hb.lt
  have hql := hb.len
  have he := hes es[i] (List.getElem_mem hlt)
  have heok := he
  unfold EOk at he
  have hadj : Adj es es[i].f0 es[i].f1 := ⟨es[i], List.getElem_mem hlt, .inl ⟨rfl, rfl⟩⟩
  -- the second test, behind the first
  have second : ∀ q', BInv es n q' a i u → (es[i].f0 = u → es[i].f1 ∈ q') → Ep (fun k => if (0 : Int) ≤ (a : Int) then (if (a : Int) < (q'.length : Int) then (if es[i].f1 = rd q' (a : Int) then ((spec_l02Has.f k q' es[i].f0).bind fun t => (if t = true then (spec_l02Reach.l1 k q' (a : Int) es (es.length : Int) (wrap64 ((i : Int) + 1)) (n : Int) es) else (if q'.length < 17592186044416 then (spec_l02Reach.l1 k (q' ++ [es[i].f0]) (a : Int) es (es.length : Int) (wrap64 ((i : Int) + 1)) (n : Int) es) else (none)))) else (spec_l02Reach.l1 k q' (a : Int) es (es.length : Int) (wrap64 ((i : Int) + 1)) (n : Int) es)) else (none)) else (none)) Q := by
   intro q' hb' h0
   have hal' := hb'.lt
   have hql' := hb'.len
   refine Ep.pos (by omega) (Ep.pos (by omega) ?_)
   rw [hb'.rd, wrap_succ (by omega)]
   refine Ep.ite (fun h1 => ?_) (fun h1 => ih (i + 1) q' (by omega) (hb'.next hlt h0 (fun x => absurd x h1)))
   refine Ep.bind (specHas q' _ (by omega)) ?_
   rintro _ rfl
   refine Ep.ite (fun h2 => ih (i + 1) q' (by omega) (hb'.next hlt h0 (fun _ => by simpa using h2))) (fun h2 => Ep.pos (by omega) ?_)
   have h2' : es[i].f0 ∉ q' := by simpa using h2
   have hb2 := hb'.push hes h2' (by rw [← h1]; exact hadj.symm)
   exact ih (i + 1) _ (by omega) (hb2.next hlt (fun x => List.mem_append_left _ (h0 x)) (fun _ => by simp))
  refine Ep.up ?_
  simp only [spec_l02Reach.l1]
  refine Ep.pos (by omega) (Ep.pos (by omega) (Ep.pos (by omega) (Ep.pos (by omega) (Ep.pos (by omega) ?_))))
  rw [rdE_get hlt, hb.rd]
  refine Ep.ite (fun h0 => ?_) (fun h0 => ?_)
  ·refine Ep.bind (specHas q _ (by omega)) ?_
   rintro _ rfl
   refine Ep.up ?_
   simp only [spec_l02Reach.j2]
   refine Ep.ite (fun h1 => Ep.pos (by omega) ?_) (fun h1 => second q hb (fun _ => by simpa using h1))
   have h1' : es[i].f1 ∉ q := by simpa using h1
   refine Ep.bind0 rfl ?_
   exact second _ (hb.push hes h1' (by rw [← h0]; exact hadj)) (fun _ => by simp)
  ·refine Ep.up ?_
   simp only [spec_l02Reach.j2]
   exact Ep.neg (by simp) (second q hb (fun x => absurd x h0))
theorem specReach_l0 (n : Nat) (hn : 1 ≤ n ∧ n ≤ 6) (es : List E) (hl : es.length ≤ 12) (hes : ∀ e ∈ es, EOk n e) : ∀ (d a : Nat) (q : List Int), a + d = 7 → a ≤ q.length → QOk es n q → (0 : Int) ∈ q → (∀ x ∈ q.take a, ∀ b, Adj es x b → b ∈ q) →
  Ep (fun k => spec_l02Reach.l0 k q (a : Int) (n : Int) es) (fun r => (r.length = n ↔ Joined n es) ∧ r.length ≤ 6) := by
 intro d
 induction d with
 | zero =>
  intro a q ha hq hok _ _
  have := nodup_len n q hok.1 (fun v hv => (hok.2 v hv).1)
  omega
 | succ d ih =>
  intro a q ha hq hok h0 hdone
  have hlen := nodup_len n q hok.1 (fun v hv => (hok.2 v hv).1)
  refine Ep.up ?_
  simp only [spec_l02Reach.l0]
  refine Ep.ite (fun hlt => ?_) (fun hge => Ep.now ?_)
  ·have hlt' : a < q.length := by omega
   have hb : BInv es n q a 0 q[a] := ⟨hok, h0, hdone, List.getElem?_eq_getElem hlt', fun e he => by simp at he⟩
   refine specReach_l1 n hn.2 es hl hes a q[a] ?_ es.length 0 q (by omega) hb
   intro q' hb'
   refine ih (a + 1) q' (by omega) (by have := hb'.lt; omega) hb'.ok hb'.zero ?_
   intro x hx b hadj
   have hal := hb'.lt
   rw [List.take_succ_eq_append_getElem hal] at hx
   rcases List.mem_append.1 hx with hx | hx
   ·exact hb'.done x hx b hadj
   ·have hx' : x = q'[a] := List.mem_singleton.1 hx
    have hu : q'[a] = q[a] := by
     have := hb'.at_
     rw [List.getElem?_eq_getElem hal] at this
     exact Option.some.inj this
    obtain ⟨e, he, h⟩ := hadj
    have hp := hb'.part e (by rw [List.take_of_length_le (Nat.le_refl _)]; exact he)
    rcases h with ⟨x0, x1⟩ | ⟨x0, x1⟩
    ·rw [← x1]
     exact hp.1 (by rw [x0, hx', hu])
    ·rw [← x0]
     exact hp.2 (by rw [x1, hx', hu])
  ·have hfull : q.take a = q := List.take_of_length_le (by omega)
   rw [hfull] at hdone
   exact ⟨queue_joined hn.1 hok h0 hdone, by omega⟩
theorem specReach (n : Nat) (hn : 1 ≤ n ∧ n ≤ 6) (es : List E) (hl : es.length ≤ 12) (hes : ∀ e ∈ es, EOk n e) : Ep (fun k => spec_l02Reach.f k (n : Int) es) (fun r => (r.length = n ↔ Joined n es) ∧ r.length ≤ 6) := by
 simp only [spec_l02Reach.f]
 refine specReach_l0 n hn es hl hes 7 0 [0] rfl (by simp) ⟨by simp, fun v hv => ?_⟩ (by simp) (fun x hx => by simp at hx)
 rw [List.mem_singleton.1 hv]
 exact ⟨⟨Int.le_refl _, by omega⟩, .refl⟩
def SortedTo (es : List E) (i : Nat) : Prop := ∀ j, (h : j + 1 < es.length) → j + 1 < i → leE es[j] es[j + 1]
theorem specGraph_l0 (n : Nat) (es : List E) (hes : EsOk n es) : ∀ (d i : Nat), i + d = es.length → SortedTo es i → Ep (fun k => spec_GraphOk.l0 k es (es.length : Int) (i : Int) (n : Int) es) (· = gOk n es) := by
 have hes' := hes
 obtain ⟨hn1, hn6, hl, hok⟩ := hes
 intro d
 induction d with
 | zero =>
  intro i hi hs
  refine Ep.up ?_
  simp only [spec_GraphOk.l0]
  refine Ep.neg (by omega) ?_
  refine Ep.bind (specReach n (by omega) es hl hok) ?_
  rintro r ⟨hr, _⟩
  refine Ep.now ?_
  have hsorted : Sorted es := fun j h => hs j h (by omega)
  have hiff : GOk n es ↔ Joined n es := ⟨fun h => h.2.2, fun h => ⟨hes', hsorted, h⟩⟩
  by_cases hj : Joined n es
  ·have : gOk n es = true := gOk_iff.2 (hiff.2 hj)
   rw [this, hr.2 hj]
   simp
  ·have : gOk n es = false := by
    cases hg : gOk n es with
    | false => rfl
    | true => exact absurd (hiff.1 (gOk_iff.1 hg)) hj
   rw [this]
   have hne : r.length ≠ n := fun e => hj (hr.1 e)
   simp
   omega
 | succ d ih =>
  intro i hi hs
  have hlt : i < es.length := by omega
  have hbad : ∀ j, i = j + 1 → (hj : j < es.length) → ¬ leE es[j] es[i] → gOk n es = false := by
   intro j hij hj hx
   subst hij
   cases hg : gOk n es with
   | false => rfl
   | true => exact absurd ((gOk_iff.1 hg).2.1 j hlt) hx
  have hgood : (∀ j, i = j + 1 → (hj : j < es.length) → leE es[j] es[i]) → Ep (fun k => spec_GraphOk.l0 k es (es.length : Int) (wrap64 ((i : Int) + 1)) (n : Int) es) (· = gOk n es) := by
   intro hx
   rw [wrap_succ (by omega)]
   refine ih (i + 1) (by omega) ?_
   intro j h hji
   by_cases e : j + 1 < i
   ·exact hs j h e
   ·have e' : i = j + 1 := by omega
    have := hx j e' (by omega)
    subst e'
    exact this
  refine Ep.up ?_
  simp only [spec_GraphOk.l0]
  refine Ep.pos (by omega) (Ep.pos (by omega) (Ep.pos (by omega) ?_))
  refine Ep.ite (fun hpos => ?_) (fun hz => hgood (fun j hij _ => by omega))
  obtain ⟨j, rfl⟩ : ∃ j, i = j + 1 := ⟨i - 1, by omega⟩
  have hw : wrap64 (((j + 1 : Nat) : Int) - 1) = (j : Int) := by rw [wrap_id (by omega) (by omega)]; omega
  rw [hw, rdE_get hlt, rdE_get (show j < es.length by omega)]
  refine Ep.pos (by omega) (Ep.pos (by omega) ?_)
  refine Ep.ite (fun h0 => Ep.now ?_) (fun h0 => ?_)
  ·exact (hbad j rfl (by omega) (by unfold leE; omega)).symm
  ·refine Ep.ite (fun h1 => ?_) (fun h1 => hgood (fun j' hij _ => ?_))
   ·refine Ep.ite (fun h2 => Ep.now ?_) (fun h2 => hgood (fun j' hij _ => ?_))
    ·exact (hbad j rfl (by omega) (by unfold leE; omega)).symm
    ·obtain rfl : j' = j := by omega
     unfold leE
     omega
   ·obtain rfl : j' = j := by omega
    unfold leE
    omega
theorem specGraph (n : Int) (es : List E) : Ep (fun k => spec_GraphOk.f k n es) (· = gOk n es) := by
 simp only [spec_GraphOk.f]
 refine Ep.bind (specEdges n es) ?_
 rintro _ rfl
 refine Ep.ite (fun h => ?_) (fun h => Ep.now ?_)
 ·have h' : EsOk n es := by simpa using h
  have h1 := h'.1
  obtain ⟨m, rfl⟩ := Int.eq_ofNat_of_zero_le (a := n) (by omega)
  exact specGraph_l0 m es h' es.length 0 (by omega) (fun j h hj => by omega)
 ·have h' : ¬ EsOk n es := by simpa using h
  cases hg : gOk n es with
  | false => rfl
  | true => exact absurd (gOk_iff.1 hg).1 h'
end Go.Proofs.Ytnbljcgdgblgoaa.Cf
end

section
namespace Go.Proofs.Ytnbljcgdgblgoaa.Cf
set_option linter.unusedVariables false
set_option linter.unusedSimpArgs false
open Go.RowKit Go.Proofs.YtnbljcgdgblgoaaW.PrintWords Go.Proofs.YtnbljcgdgblgoaaW.PrintMore Go.Proofs.Ytnbljcgdgblgoaa.P
theorem within_eq (a b c : Int) : impl_within.f a b c = some (decide (b ≤ a ∧ a ≤ c)) := by
 unfold impl_within.f
 by_cases h : a ≥ b
 ·rw [if_pos h]
  have : (b ≤ a ∧ a ≤ c) ↔ a ≤ c := ⟨fun x => x.2, fun x => ⟨h, x⟩⟩
  simp only [this]
 ·rw [if_neg h]
  have : ¬ (b ≤ a ∧ a ≤ c) := fun x => h x.1
  simp only [this, decide_false]
theorem implEdges_l0 (n : Int) (es : List E) (hl : es.length ≤ 12) : ∀ (d i : Nat), i + d = es.length → Ep (fun k => impl_EdgesOk.l0 k es (es.length : Int) (i : Int) n es) (· = decide (∀ e ∈ es.drop i, EOk n e)) := by
 intro d
 induction d with
 | zero =>
  intro i hi
  refine Ep.up ?_
  simp only [impl_EdgesOk.l0]
  refine Ep.neg (by omega) (Ep.now ?_)
  rw [List.drop_of_length_le (by omega)]
  simp
 | succ d ih =>
  intro i hi
  have hlt : i < es.length := by omega
  have no : ¬ EOk n es[i] → false = decide (∀ e ∈ es.drop i, EOk n e) := fun h => by simp only [forall_drop hlt, h, false_and, decide_false]
  refine Ep.up ?_
  simp only [impl_EdgesOk.l0]
  refine Ep.pos (by omega) (Ep.pos (by omega) (Ep.pos (by omega) ?_))
  rw [rdE_get hlt]
  refine Ep.ite (fun h => Ep.now (no (by unfold EOk; omega))) (fun h0 => ?_)
  refine Ep.ite (fun h => Ep.now (no (by unfold EOk; omega))) (fun h1 => ?_)
  refine Ep.ite (fun h => Ep.now (no (by unfold EOk; omega))) (fun h2 => ?_)
  rw [wrap_succ (by omega)]
  refine (ih (i + 1) (by omega)).mono ?_
  rintro _ rfl
  have : EOk n es[i] := by unfold EOk; omega
  simp only [forall_drop hlt, this, true_and]
theorem implEdges (n : Int) (es : List E) : Ep (fun k => impl_EdgesOk.f k n es) (· = decide (EsOk n es)) := by
 simp only [impl_EdgesOk.f]
 refine Ep.bind0 (within_eq _ _ _) ?_
 refine Ep.ite (fun h0 => ?_) (fun h0 => ?_)
 ·have h0' : 1 ≤ n ∧ n ≤ 6 := by simpa using h0
  refine Ep.up ?_
  simp only [impl_EdgesOk.j0]
  refine Ep.ite (fun h1 => Ep.now ?_) (fun h1 => ?_)
  ·have : ¬ EsOk n es := by
    have : (es.length : Int) > 12 := by simpa using h1
    unfold EsOk
    omega
   simp [this]
  ·have hl : es.length ≤ 12 := by
    have : ¬ (es.length : Int) > 12 := by simpa using h1
    omega
   refine (implEdges_l0 n es hl es.length 0 (by omega)).mono ?_
   rintro _ rfl
   rw [List.drop_zero]
   unfold EsOk
   simp only [h0'.1, h0'.2, hl, true_and]
 ·have h0' : ¬ (1 ≤ n ∧ n ≤ 6) := by simpa using h0
  refine Ep.up ?_
  simp only [impl_EdgesOk.j0]
  refine Ep.pos (by simp) (Ep.now ?_)
  have : ¬ EsOk n es := by
   unfold EsOk
   omega
  simp [this]
theorem wraps_i64 (n : Int) (h0 : 0 ≤ n) (h1 : n < 2 ^ 62) : IntKind.i64.wrap n = n := by rw [IntKind.wrap_i64]; omega
theorem or_nat {a b : Nat} (ha : a < 2 ^ 62) (hb : b < 2 ^ 62) : Go.bits .or .i64 (a : Int) (b : Int) = ((a ||| b : Nat) : Int) := (bits_nat .i64 62 (by decide) wraps_i64 a b ha hb).2
theorem and_nat {a b : Nat} (ha : a < 2 ^ 62) (hb : b < 2 ^ 62) : Go.bits .and .i64 (a : Int) (b : Int) = ((a &&& b : Nat) : Int) := (bits_nat .i64 62 (by decide) wraps_i64 a b ha hb).1
theorem shl_nat {a : Nat} (ha : a < 62) : shl .i64 1 (a : Int) = ((2 ^ a : Nat) : Int) := by
 unfold shl
 have : (2 : Int) ^ a < 2 ^ 62 := by
  have := Nat.pow_lt_pow_right (a := 2) (by decide) ha
  exact_mod_cast this
 rw [Int.toNat_natCast, Nat.min_eq_left (by show a ≤ 64; omega), Int.one_mul, wraps_i64 _ (by have := Int.pow_nonneg (n := 2) (m := a) (by decide); omega) this]
 simp
theorem shr_nat {m a : Nat} (ha : a < 62) : shr .i64 (m : Int) (a : Int) = ((m / 2 ^ a : Nat) : Int) := by
 unfold shr
 rw [Int.toNat_natCast, Nat.min_eq_left (by show a ≤ 64; omega)]
 simp
theorem bit_test {m : Nat} (hm : m < 2 ^ 62) {a : Nat} (ha : a < 62) : Go.bits .and .i64 (shr .i64 (m : Int) (a : Int)) 1 = 1 ↔ m.testBit a = true := by
 rw [shr_nat ha, show (1 : Int) = ((1 : Nat) : Int) from rfl, and_nat (Nat.lt_of_le_of_lt (Nat.div_le_self _ _) hm) (by decide)]
 rw [Nat.testBit_eq_decide_div_mod_eq, Nat.and_one_is_mod]
 generalize m / 2 ^ a = x
 simp only [decide_eq_true_eq]
 omega
theorem bit_cases {m a : Nat} : m.testBit a = true ∨ m.testBit a = false := by cases m.testBit a <;> simp
theorem MOk.lt {es : List E} {n m : Nat} (h : MOk es n m) (hn : n ≤ 6) : m < 2 ^ 6 := by
 apply Nat.lt_pow_two_of_testBit
 intro i hi
 cases hb : m.testBit i with
 | false => rfl
 | true => have := (h i hb).1; omega
theorem step_lt {m : Nat} {e : E} {n : Int} (hm : m < 2 ^ 6) (he : EOk n e) (hn : n ≤ 6) : stepM m e < 2 ^ 6 := by
 unfold EOk at he
 unfold stepM
 split
 ·apply Nat.or_lt_two_pow hm
  apply Nat.or_lt_two_pow
  ·exact Nat.pow_lt_pow_right (by decide) (by omega)
  ·exact Nat.pow_lt_pow_right (by decide) (by omega)
 ·exact hm
theorem round_lt {n : Int} (hn : n ≤ 6) : ∀ (es : List E), (∀ e ∈ es, EOk n e) → ∀ {m : Nat}, m < 2 ^ 6 → roundM es m < 2 ^ 6 := by
 intro es
 induction es with
 | nil => intro _ m h; exact h
 | cons e r ih => intro hes m h; exact ih (fun x hx => hes x (List.mem_cons_of_mem _ hx)) (step_lt h (hes e List.mem_cons_self) hn)
open Classical in
noncomputable def joinedB (n : Int) (es : List E) : Bool := decide (Joined n es)
theorem joinedB_iff {n : Int} {es : List E} : joinedB n es = true ↔ Joined n es := by unfold joinedB; simp
theorem implConn_l1 (n : Int) (hn : n ≤ 6) (es : List E) (hl : es.length ≤ 1048576) (hes : ∀ e ∈ es, EOk n e) (x8 x9 : Int) {Q : Bool → Prop} (m0 : Nat)
  (hk : Ep (fun k => impl_connected.l0 k n es ((roundM es m0 : Nat) : Int) x8 (wrap64 (x9 + 1))) Q) :
  ∀ (d i : Nat) (m : Nat), i + d = es.length → m < 2 ^ 6 → roundM (es.drop i) m = roundM es m0 → Ep (fun k => impl_connected.l1 k n es (m : Int) x8 x9 es (es.length : Int) (i : Int)) Q := by
 intro d
 induction d with
 | zero =>
  intro i m hi hm hr
  refine Ep.up ?_
  simp only [impl_connected.l1]
  refine Ep.neg (by omega) ?_
  rw [List.drop_of_length_le (by omega)] at hr
  have e : m = roundM es m0 := hr
  rw [e]
  exact hk
 | succ d ih =>
  intro i m hi hm hr
  have hlt : i < es.length := by omega
  have hek := hes es[i] (List.getElem_mem hlt)
  have he := hek
  unfold EOk at he
  rw [List.drop_eq_getElem_cons hlt] at hr
  have hr' : roundM (es.drop (i + 1)) (stepM m es[i]) = roundM es m0 := hr
  have hst := step_lt hm hek hn
  obtain ⟨a, ha⟩ := Int.eq_ofNat_of_zero_le he.1
  obtain ⟨b, hb⟩ := Int.eq_ofNat_of_zero_le (a := es[i].f1) (by omega)
  have ha6 : a < 6 := by omega
  have hb6 : b < 6 := by omega
  have hm62 : m < 2 ^ 62 := by omega
  have pa : 2 ^ a < 2 ^ 6 := Nat.pow_lt_pow_right (by decide) ha6
  have pb : 2 ^ b < 2 ^ 6 := Nat.pow_lt_pow_right (by decide) hb6
  have pab : 2 ^ a ||| 2 ^ b < 2 ^ 6 := Nat.or_lt_two_pow pa pb
  have hset : Go.bits .or .i64 (m : Int) (Go.bits .or .i64 (shl .i64 1 (a : Int)) (shl .i64 1 (b : Int))) = ((m ||| (2 ^ a ||| 2 ^ b) : Nat) : Int) := by
   rw [shl_nat (by omega), shl_nat (by omega), or_nat (by omega) (by omega), or_nat (by omega) (by omega)]
  have hstep : (m.testBit a || m.testBit b) = true → stepM m es[i] = m ||| (2 ^ a ||| 2 ^ b) := by
   intro h
   unfold stepM
   rw [ha, hb]
   simp only [Int.ofNat_eq_natCast, Int.toNat_natCast]
   rw [if_pos h]
  have hstay : (m.testBit a || m.testBit b) = false → stepM m es[i] = m := by
   intro h
   unfold stepM
   rw [ha, hb]
   simp only [Int.ofNat_eq_natCast, Int.toNat_natCast]
   rw [if_neg (by rw [h]; simp)]
  refine Ep.up ?_
  simp only [impl_connected.l1]
  refine Ep.pos (by omega) (Ep.pos (by omega) (Ep.pos (by omega) ?_))
  rw [rdE_get hlt, ha, hb]
  refine Ep.pos (by omega) ?_
  rw [hset, wrap_succ (by omega)]
  refine Ep.ite (fun h => Ep.pos (by omega) ?_) (fun h => Ep.pos (by omega) (Ep.ite (fun h2 => ?_) (fun h2 => ?_)))
  ·have := (bit_test hm62 (by omega)).1 h
   rw [← hstep (by rw [this]; rfl)]
   exact ih (i + 1) _ (by omega) hst hr'
  ·have := (bit_test hm62 (by omega)).1 h2
   rw [← hstep (by rw [this]; simp)]
   exact ih (i + 1) _ (by omega) hst hr'
  ·have h1 : m.testBit a = false := by
    rcases bit_cases (m := m) (a := a) with x | x
    ·exact absurd ((bit_test hm62 (by omega)).2 x) h
    ·exact x
   have h3 : m.testBit b = false := by
    rcases bit_cases (m := m) (a := b) with x | x
    ·exact absurd ((bit_test hm62 (by omega)).2 x) h2
    ·exact x
   have := hstay (by rw [h1, h3]; rfl)
   rw [this] at hr'
   exact ih (i + 1) _ (by omega) hm hr'
theorem implConn_l0 (n : Nat) (hn : 1 ≤ n ∧ n ≤ 6) (es : List E) (hl : es.length ≤ 1048576) (hes : ∀ e ∈ es, EOk n e) : ∀ (d i m : Nat), i + d = n → m < 2 ^ 6 → timesM es d m = timesM es n 1 → Ep (fun k => impl_connected.l0 k (n : Int) es (m : Int) (n : Int) (i : Int)) (· = joinedB n es) := by
 intro d
 induction d with
 | zero =>
  intro i m hi hm hr
  refine Ep.up ?_
  simp only [impl_connected.l0]
  refine Ep.neg (by omega) (Ep.pos (by omega) (Ep.now ?_))
  have hr' : m = timesM es n 1 := hr
  have hp : 1 ≤ 2 ^ n := Nat.one_le_two_pow
  have hp2 : 2 ^ n ≤ 2 ^ 6 := Nat.pow_le_pow_right (by decide) hn.2
  rw [shl_nat (by omega), wrap_id (by omega) (by omega)]
  rw [Bool.eq_iff_iff, joinedB_iff, ← times_joined hn.1 hes, ← hr']
  simp only [beq_iff_eq]
  omega
 | succ d ih =>
  intro i m hi hm hr
  refine Ep.up ?_
  simp only [impl_connected.l0]
  refine Ep.pos (by omega) ?_
  refine implConn_l1 n (by omega) es hl hes _ _ m ?_ es.length 0 m (by omega) hm (by rw [List.drop_zero])
  rw [wrap_succ (by omega)]
  exact ih (i + 1) _ (by omega) (round_lt (by omega) es hes hm) hr
theorem implConn (n : Nat) (hn : 1 ≤ n ∧ n ≤ 6) (es : List E) (hl : es.length ≤ 1048576) (hes : ∀ e ∈ es, EOk n e) : Ep (fun k => impl_connected.f k (n : Int) es) (· = joinedB n es) := by
 simp only [impl_connected.f]
 exact implConn_l0 n hn es hl hes n 0 1 (by omega) (by decide) rfl
end Go.Proofs.Ytnbljcgdgblgoaa.Cf
end

section
namespace Go.Proofs.Ytnbljcgdgblgoaa.P
open Go.RowKit Go.Proofs.YtnbljcgdgblgoaaW.PrintWords Go.Proofs.YtnbljcgdgblgoaaW.PrintLast Go.Proofs.YtnbljcgdgblgoaaW.PrintMore
attribute [local go_sem] max2_int min2_int max_two min_two max_three min_three max_four min_four
set_option linter.unusedVariables false
set_option linter.unusedSimpArgs false
def cmp_isNaN_int.f (a0 : Int) : Option (Bool) := some (a0 != a0)
theorem cmp_isNaN_int.calls (a0 : Int) (r : Bool) (w : World) (h : cmp_isNaN_int.f a0 = some r) :
  Calls Try.prog 133 #[.int .i64 a0] w fun e w' => e = .returned (.bool r) ∧ Drawn0 w w' := by
 have H : (some (a0 != a0)) = some r := h; clear h; obtain rfl := Option.some.inj H; go_enter Try.func133, Try.ntmps133; go_wp2; go_ret; exact ⟨zz5, by repeat (first | exact Drawn0.refl _ | apply Drawn0.step)⟩
def cmp_Compare_int.f (a0 : Int) (a1 : Int) : Option (Int) := (cmp_isNaN_int.f a0).bind fun dG => ((cmp_isNaN_int.f a1).bind fun aQ => (if dG = true then (if aQ = true then (some 0) else (some (-1))) else (if aQ = true then (some 1) else (if a0 < a1 then (some (-1)) else (if a0 > a1 then (some 1) else (some 0))))))
theorem cmp_Compare_int.calls (a0 : Int) (a1 : Int) (r : Int) (w : World) (h : cmp_Compare_int.f a0 a1 = some r) :
  Calls Try.prog 100 #[.int .i64 a0, .int .i64 a1] w fun e w' => e = .returned (.int .i64 r) ∧ Drawn0 w w' := by
 have H : ((cmp_isNaN_int.f a0).bind fun dG => ((cmp_isNaN_int.f a1).bind fun aQ => (if dG = true then (if aQ = true then (some 0) else (some (-1))) else (if aQ = true then (some 1) else (if a0 < a1 then (some (-1)) else (if a0 > a1 then (some 1) else (some 0))))))) = some r := h; clear h; obtain ⟨dG, A30, H⟩ := zO_ H; (try dsimp only at H); have A3 := zK_ A30; clear A30; obtain ⟨aQ, A40, H⟩ := zO_ H; (try dsimp only at H); have A4 := zK_ A40; clear A40; by_cases c5 : dG = true
 ·subst c5; rw [if_pos rfl] at H; by_cases c6 : aQ = true
  ·subst c6; rw [if_pos rfl] at H; obtain rfl := Option.some.inj H; go_enter Try.func100, Try.ntmps100; (go_wp2_with (first | ((with_reducible refine gate_callee (f := 133) rfl ?_); refine goesL_ (some 8) rfl rfl Try.func133 (by kernel_rfl) rfl #[.int .i64 a0] rfl zz3 ?_; (with_reducible refine (cmp_isNaN_int.calls a0 true _ A3.out).mono ?_); rintro e w' ⟨rfl, ⟨nd, rfl⟩⟩; refine ⟨_, rfl, ?_⟩) | ((with_reducible refine gate_callee (f := 133) rfl ?_); refine goesL_ (some 10) rfl rfl Try.func133 (by kernel_rfl) rfl #[.int .i64 a1] rfl zz3 ?_; (with_reducible refine (cmp_isNaN_int.calls a1 true _ A4.out).mono ?_); rintro e w' ⟨rfl, ⟨nd, rfl⟩⟩; refine ⟨_, rfl, ?_⟩))); go_ret; exact ⟨zz5, by repeat (first | exact Drawn0.refl _ | apply Drawn0.step)⟩
  replace c6 := Bool.eq_false_iff.mpr c6; subst c6; rw [if_neg (show ¬ (false = true) by decide)] at H; obtain rfl := Option.some.inj H; go_enter Try.func100, Try.ntmps100; (go_wp2_with (first | ((with_reducible refine gate_callee (f := 133) rfl ?_); refine goesL_ (some 8) rfl rfl Try.func133 (by kernel_rfl) rfl #[.int .i64 a0] rfl zz3 ?_; (with_reducible refine (cmp_isNaN_int.calls a0 true _ A3.out).mono ?_); rintro e w' ⟨rfl, ⟨nd, rfl⟩⟩; refine ⟨_, rfl, ?_⟩) | ((with_reducible refine gate_callee (f := 133) rfl ?_); refine goesL_ (some 10) rfl rfl Try.func133 (by kernel_rfl) rfl #[.int .i64 a1] rfl zz3 ?_; (with_reducible refine (cmp_isNaN_int.calls a1 false _ A4.out).mono ?_); rintro e w' ⟨rfl, ⟨nd, rfl⟩⟩; refine ⟨_, rfl, ?_⟩))); go_ret; exact ⟨zz5, by repeat (first | exact Drawn0.refl _ | apply Drawn0.step)⟩
 replace c5 := Bool.eq_false_iff.mpr c5; subst c5; rw [if_neg (show ¬ (false = true) by decide)] at H; by_cases c7 : aQ = true
 ·subst c7; rw [if_pos rfl] at H; obtain rfl := Option.some.inj H; go_enter Try.func100, Try.ntmps100; (go_wp2_with (first | ((with_reducible refine gate_callee (f := 133) rfl ?_); refine goesL_ (some 8) rfl rfl Try.func133 (by kernel_rfl) rfl #[.int .i64 a0] rfl zz3 ?_; (with_reducible refine (cmp_isNaN_int.calls a0 false _ A3.out).mono ?_); rintro e w' ⟨rfl, ⟨nd, rfl⟩⟩; refine ⟨_, rfl, ?_⟩) | ((with_reducible refine gate_callee (f := 133) rfl ?_); refine goesL_ (some 10) rfl rfl Try.func133 (by kernel_rfl) rfl #[.int .i64 a1] rfl zz3 ?_; (with_reducible refine (cmp_isNaN_int.calls a1 true _ A4.out).mono ?_); rintro e w' ⟨rfl, ⟨nd, rfl⟩⟩; refine ⟨_, rfl, ?_⟩))); go_ret; exact ⟨zz5, by repeat (first | exact Drawn0.refl _ | apply Drawn0.step)⟩
 replace c7 := Bool.eq_false_iff.mpr c7; subst c7; rw [if_neg (show ¬ (false = true) by decide)] at H; by_cases c8 : a0 < a1
 ·rw [if_pos c8] at H; have fL := decide_eq_true c8; clear c8; obtain rfl := Option.some.inj H; go_enter Try.func100, Try.ntmps100; (go_wp2_with (first | ((with_reducible refine gate_callee (f := 133) rfl ?_); refine goesL_ (some 8) rfl rfl Try.func133 (by kernel_rfl) rfl #[.int .i64 a0] rfl zz3 ?_; (with_reducible refine (cmp_isNaN_int.calls a0 false _ A3.out).mono ?_); rintro e w' ⟨rfl, ⟨nd, rfl⟩⟩; refine ⟨_, rfl, ?_⟩) | ((with_reducible refine gate_callee (f := 133) rfl ?_); refine goesL_ (some 10) rfl rfl Try.func133 (by kernel_rfl) rfl #[.int .i64 a1] rfl zz3 ?_; (with_reducible refine (cmp_isNaN_int.calls a1 false _ A4.out).mono ?_); rintro e w' ⟨rfl, ⟨nd, rfl⟩⟩; refine ⟨_, rfl, ?_⟩))); go_ret; exact ⟨zz5, by repeat (first | exact Drawn0.refl _ | apply Drawn0.step)⟩
 rw [if_neg c8] at H; have fL := decide_eq_false c8; clear c8; by_cases c9 : a0 > a1
 ·rw [if_pos c9] at H; have fN : decide (a1 < a0) = true := decide_eq_true c9; clear c9; obtain rfl := Option.some.inj H; go_enter Try.func100, Try.ntmps100; (go_wp2_with (first | ((with_reducible refine gate_callee (f := 133) rfl ?_); refine goesL_ (some 8) rfl rfl Try.func133 (by kernel_rfl) rfl #[.int .i64 a0] rfl zz3 ?_; (with_reducible refine (cmp_isNaN_int.calls a0 false _ A3.out).mono ?_); rintro e w' ⟨rfl, ⟨nd, rfl⟩⟩; refine ⟨_, rfl, ?_⟩) | ((with_reducible refine gate_callee (f := 133) rfl ?_); refine goesL_ (some 10) rfl rfl Try.func133 (by kernel_rfl) rfl #[.int .i64 a1] rfl zz3 ?_; (with_reducible refine (cmp_isNaN_int.calls a1 false _ A4.out).mono ?_); rintro e w' ⟨rfl, ⟨nd, rfl⟩⟩; refine ⟨_, rfl, ?_⟩))); go_ret; exact ⟨zz5, by repeat (first | exact Drawn0.refl _ | apply Drawn0.step)⟩
 rw [if_neg c9] at H; have fN : decide (a1 < a0) = false := decide_eq_false c9; clear c9; obtain rfl := Option.some.inj H; go_enter Try.func100, Try.ntmps100; (go_wp2_with (first | ((with_reducible refine gate_callee (f := 133) rfl ?_); refine goesL_ (some 8) rfl rfl Try.func133 (by kernel_rfl) rfl #[.int .i64 a0] rfl zz3 ?_; (with_reducible refine (cmp_isNaN_int.calls a0 false _ A3.out).mono ?_); rintro e w' ⟨rfl, ⟨nd, rfl⟩⟩; refine ⟨_, rfl, ?_⟩) | ((with_reducible refine gate_callee (f := 133) rfl ?_); refine goesL_ (some 10) rfl rfl Try.func133 (by kernel_rfl) rfl #[.int .i64 a1] rfl zz3 ?_; (with_reducible refine (cmp_isNaN_int.calls a1 false _ A4.out).mono ?_); rintro e w' ⟨rfl, ⟨nd, rfl⟩⟩; refine ⟨_, rfl, ?_⟩))); go_ret; exact ⟨zz5, by repeat (first | exact Drawn0.refl _ | apply Drawn0.step)⟩
def impl_compareEdges.f (aD : Int) (dN : Int) (dV : Int) (gO : Int) : Option (Int) := (cmp_Compare_int.f aD dV).bind fun bQ => (if bQ = 0 then ((cmp_Compare_int.f dN gO).bind fun iK => (some iK)) else (some bQ))
theorem impl_compareEdges.calls (aD : Int) (dN : Int) (dV : Int) (gO : Int) (r : Int) (w : World) (h : impl_compareEdges.f aD dN dV gO = some r) :
  Calls Try.prog 92 #[.agg #[.int .i64 aD, .int .i64 dN], .agg #[.int .i64 dV, .int .i64 gO]] w fun e w' => e = .returned (.int .i64 r) ∧ Below w.heap.size w w' := by
 have hu57 := Try.underlying57; have HB := zK_ (Below.refl w.heap.size w); have H : ((cmp_Compare_int.f aD dV).bind fun bQ => (if bQ = 0 then ((cmp_Compare_int.f dN gO).bind fun iK => (some iK)) else (some bQ))) = some r := h; clear h; obtain ⟨bQ, A30, H⟩ := zO_ H; (try dsimp only at H); have A3 := zK_ A30; clear A30; by_cases c4 : bQ = 0; rotate_left
 ·rw [if_neg c4] at H; have dI : (bQ == 0) = false := beq_eq_false_iff_ne.mpr c4; have j8 : (bQ != 0) = true := bne_iff_ne.mpr c4; obtain rfl := Option.some.inj H; go_enter Try.func92, Try.ntmps92; (go_wp2_with (first | ((with_reducible refine gate_dst (N := 2) rfl ?_); refine box_event ?hg (N := 2) ?hd (cs := #[.int .i64 aD, .int .i64 dN]) (t := 57) ?hr ?_; (case hd => rfl); (case hg => rfl); (case hr => exact zz9); intro aE hg w11 hbox hb; have n_ := zA4 (below_step zz1 hb) hbox (zz10 : w.heap.size ≤ aE) (zz10 : w.heap.size ≤ aE); clear HB; obtain ⟨HB, aA, GW101, GE101⟩ := n_; clear hb hbox hg) | ((with_reducible refine gate_dst (N := 3) rfl ?_); refine box_event ?hg (N := 3) ?hd (cs := #[.int .i64 dV, .int .i64 gO]) (t := 57) ?hr ?_; (case hd => rfl); (case hg => rfl); (case hr => exact zz9); intro bB hg w12 hbox hb; have n_ := zA7 (blk_below (g := aE) (o := .cells #[.int .i64 aD, .int .i64 dN] 57 (0, 0)) zz2 hb) (below_step zz0 hb) hbox (zz13 : w.heap.size ≤ bB) (zz13 : w.heap.size ≤ bB) (zz51 : aE ≠ bB) (zz52 : bB ≠ aE); clear aA HB; obtain ⟨aA, HB, aZ, GW102, GE102, b7, b6⟩ := n_; clear hb hbox hg; have pO := b7.out; have pN := b6.out; have d3 := zC20 aA; have d2 := zC21 aA; have dZ := blk_frozen aA.out 0; have dY := blk_frozen aA.out 1; have i9 := zC20 aZ; have i8 := zC21 aZ; have i5 := blk_frozen aZ.out 0; have i4 := blk_frozen aZ.out 1) | ((with_reducible refine gate_callee (f := 100) rfl ?_); refine goesL_ (some 10) rfl rfl Try.func100 (by kernel_rfl) rfl #[.int .i64 aD, .int .i64 dV] rfl zz3 ?_; (with_reducible refine (cmp_Compare_int.calls aD dV bQ _ A3.out).mono ?_); rintro e w' ⟨rfl, ⟨nd, rfl⟩⟩; refine ⟨_, rfl, ?_⟩))); go_ret; exact ⟨zz7, zz21⟩
 rw [if_pos c4] at H; have dI : (bQ == 0) = true := beq_iff_eq.mpr c4; have j8 : (bQ != 0) = false := bne_eq_false_iff_eq.mpr c4; clear c4; obtain ⟨iK, A50, H⟩ := zO_ H; (try dsimp only at H); have A5 := zK_ A50; clear A50; obtain rfl := Option.some.inj H; go_enter Try.func92, Try.ntmps92; (go_wp2_with (first | ((with_reducible refine gate_dst (N := 2) rfl ?_); refine box_event ?hg (N := 2) ?hd (cs := #[.int .i64 aD, .int .i64 dN]) (t := 57) ?hr ?_; (case hd => rfl); (case hg => rfl); (case hr => exact zz9); intro aE hg w6 hbox hb; have n_ := zA4 (below_step zz1 hb) hbox (zz10 : w.heap.size ≤ aE) (zz10 : w.heap.size ≤ aE); clear HB; obtain ⟨HB, aA, GW101, GE101⟩ := n_; clear hb hbox hg) | ((with_reducible refine gate_dst (N := 3) rfl ?_); refine box_event ?hg (N := 3) ?hd (cs := #[.int .i64 dV, .int .i64 gO]) (t := 57) ?hr ?_; (case hd => rfl); (case hg => rfl); (case hr => exact zz9); intro bB hg w7 hbox hb; have n_ := zA7 (blk_below (g := aE) (o := .cells #[.int .i64 aD, .int .i64 dN] 57 (0, 0)) zz2 hb) (below_step zz0 hb) hbox (zz13 : w.heap.size ≤ bB) (zz13 : w.heap.size ≤ bB) (zz51 : aE ≠ bB) (zz52 : bB ≠ aE); clear aA HB; obtain ⟨aA, HB, aZ, GW102, GE102, b7, b6⟩ := n_; clear hb hbox hg; have t7 := b7.out; have tY := b6.out; have fD := zC20 aA; have fC := zC21 aA; have fB := blk_frozen aA.out 0; have fA := blk_frozen aA.out 1; have cH := zC20 aZ; have cG := zC21 aZ; have cE := blk_frozen aZ.out 0; have cC := blk_frozen aZ.out 1) | ((with_reducible refine gate_callee (f := 100) rfl ?_); refine goesL_ (some 10) rfl rfl Try.func100 (by kernel_rfl) rfl #[.int .i64 aD, .int .i64 dV] rfl zz3 ?_; (with_reducible refine (cmp_Compare_int.calls aD dV bQ _ A3.out).mono ?_); rintro e w' ⟨rfl, ⟨nd, rfl⟩⟩; refine ⟨_, rfl, ?_⟩) | ((with_reducible refine gate_callee (f := 100) rfl ?_); refine goesL_ (some 18) rfl rfl Try.func100 (by kernel_rfl) rfl #[.int .i64 dN, .int .i64 gO] rfl zz3 ?_; (with_reducible refine (cmp_Compare_int.calls dN gO iK _ A5.out).mono ?_); rintro e w' ⟨rfl, ⟨nd, rfl⟩⟩; refine ⟨_, rfl, ?_⟩))); go_ret; exact ⟨zz7, zz21⟩
end Go.Proofs.Ytnbljcgdgblgoaa.P
end

section
namespace Go.Proofs.Ytnbljcgdgblgoaa.Cf
set_option linter.unusedVariables false
set_option linter.unusedSimpArgs false
open Go.RowKit Go.Proofs.YtnbljcgdgblgoaaW.PrintWords Go.Proofs.YtnbljcgdgblgoaaW.PrintLast Go.Proofs.YtnbljcgdgblgoaaW.PrintMore Go.Proofs.Ytnbljcgdgblgoaa.P
def cmpI (a b : Int) : Int := if a < b then -1 else if a > b then 1 else 0
theorem cmp_eq (a b : Int) : cmp_Compare_int.f a b = some (cmpI a b) := by
 unfold cmp_Compare_int.f cmp_isNaN_int.f cmpI
 simp
 split <;> (try split) <;> rfl
def cmpE (a b : E) : Int := if cmpI a.f0 b.f0 = 0 then cmpI a.f1 b.f1 else cmpI a.f0 b.f0
theorem cmpE_eq (a b : E) : impl_compareEdges.f a.f0 a.f1 b.f0 b.f1 = some (cmpE a b) := by
 unfold impl_compareEdges.f cmpE
 rw [cmp_eq, cmp_eq]
 simp only [Option.bind_some]
 split <;> rfl
theorem cmpE_lt (a b : E) : cmpE a b < 0 ↔ ¬ leE b a := by
 unfold cmpE cmpI leE
 by_cases h : a.f0 < b.f0
 ·simp [h]; try omega
 ·by_cases h2 : a.f0 > b.f0
  ·simp [h, h2]; try omega
  ·by_cases h3 : a.f1 < b.f1
   ·simp [h, h2, h3]; try omega
   ·by_cases h4 : a.f1 > b.f1
    ·simp [h, h2, h3, h4]; try omega
    ·simp [h, h2, h3, h4]; try omega
open Classical in
noncomputable def sortedB (es : List E) : Bool := decide (Sorted es)
theorem sortedB_iff {es : List E} : sortedB es = true ↔ Sorted es := by unfold sortedB; simp
def SortedFrom (es : List E) (i : Nat) : Prop := ∀ j, i ≤ j → (h : j + 1 < es.length) → leE es[j] es[j + 1]
theorem SortedFrom.all {es : List E} (h : SortedFrom es 0) : sortedB es = true := sortedB_iff.2 (fun j hj => h j (Nat.zero_le _) hj)
theorem SortedFrom.none {es : List E} {i : Nat} (h : i + 1 < es.length) (hn : ¬ leE es[i] es[i + 1]) : sortedB es = false := by
 cases hb : sortedB es with
 | false => rfl
 | true => exact absurd (sortedB_iff.1 hb i h) hn
theorem SortedFrom.down {es : List E} {i : Nat} (h : SortedFrom es (i + 1)) (hi : i + 1 < es.length) (hl : leE es[i] es[i + 1]) : SortedFrom es i := by
 intro j hj hjl
 by_cases e : j = i
 ·subst e; exact hl
 ·exact h j (by omega) hjl
theorem isf_calls (es : List E) (A : Option Addr) (c : Nat) (w : World) (hr : Kd.C k57 w A es.length es) (hc : es.length ≤ c) :
  Calls Try.prog 91 #[.slice A es.length c, .func (.func 92) #[] #[]] w fun e w' => e = .returned (.bool (sortedB es)) ∧ Below w.heap.size w w' := by
 have hlen := hr.2.1
 have HR := Aside0.mk hr
 have HL := Aside0.mk hlen
 clear hr hlen
 have HB := Aside0.mk (Below.refl w.heap.size w)
 go_enter Try.func91, Try.ntmps91
 go_wp2
 go_loopw [5] (fun v wr => ∃ i : Int, v = .int .i64 i ∧ Aside0 (-1 ≤ i ∧ i < es.length ∧ SortedFrom es i.toNat) ∧ Aside0 (Below w.heap.size w wr)) (fun v _ => (intOf v + 1).toNat)
 case atStart => exact ⟨(es.length : Int) - 1, by rw [wrap_id (by have := HL.out; omega) (by have := HL.out; omega)], ⟨by omega, by omega, fun j hj hjl => by omega⟩, HB⟩
 case round =>
  obtain ⟨i, rfl, HI, HB⟩ := hrel
  by_cases h0 : 0 < i
  ·obtain ⟨j, hij⟩ : ∃ j : Nat, i = (j : Int) + 1 := ⟨(i - 1).toNat, by omega⟩
   have hj := HI.out.2.1
   have hl := HL.out
   have hw : wrap64 (i - 1) = (j : Int) := by rw [wrap_id (by omega) (by omega)]; omega
   have p1 : 0 ≤ i := by omega
   have p2 : 0 ≤ wrap64 (i - 1) := by omega
   have q2 : wrap64 (i - 1) < (es.length : Int) := by omega
   obtain ⟨ad, e, hx0, hx1⟩ := at_T57 HR.out i p1 hj
   cases e
   obtain ⟨ad', e, hy0, hy1⟩ := at_T57 HR.out (wrap64 (i - 1)) p2 q2
   cases e
   replace hx0 := (HB.out.cell (World.block_lt_of_cell? w _ hx0)).trans hx0
   replace hx1 := (HB.out.cell (World.block_lt_of_cell? w _ hx1)).trans hx1
   replace hy0 := (HB.out.cell (World.block_lt_of_cell? w _ hy0)).trans hy0
   replace hy1 := (HB.out.cell (World.block_lt_of_cell? w _ hy1)).trans hy1
   have c0 : decide (0 < i) = true := decide_eq_true h0
   replace p1 := eq_true p1
   have q1 := eq_true hj
   replace p2 := eq_true p2
   replace q2 := eq_true q2
   have HW := Aside0.mk hw
   have HIJ := Aside0.mk hij
   clear hj hl hw hij h0
   go_wp2
   go_still_tail 10, (by kernel_rfl)
   simp only [i64_w]
   repeat still_step
   refine wpStill_nil ?_
   change wpList _ _ _ _ _ wr.drew
   have HB' := Aside0.mk (below_drew1 HB.out)
   clear HB hx0 hx1 hy0 hy1
   generalize wr.drew = w2 at HB' ⊢
   have HX := Aside0.mk (cmpE_eq (rd_T57 es i) (rd_T57 es (wrap64 (i - 1))))
   have HC := Aside0.mk (cmpE_lt (rd_T57 es i) (rd_T57 es (wrap64 (i - 1))))
   generalize cmpE (rd_T57 es i) (rd_T57 es (wrap64 (i - 1))) = z at HX HC
   have HE : Aside0 (∃ hj : j + 1 < es.length, rd_T57 es i = es[j + 1] ∧ rd_T57 es (wrap64 (i - 1)) = es[j]) := by
    have hj : j + 1 < es.length := by
     have := HI.out.2.1
     have := HIJ.out
     omega
    have e1 : i = ((j + 1 : Nat) : Int) := by have := HIJ.out; omega
    refine ⟨hj, ?_, ?_⟩
    ·rw [e1, rdE_get hj]
    ·rw [HW.out, rdE_get (by omega)]
   by_cases hz : z < 0
   ·have cz : decide (z < 0) = true := decide_eq_true hz
    have HZ := Aside0.mk hz
    clear hz
    go_wp2_with fail
    refine (impl_compareEdges.calls _ _ _ _ z _ HX.out).mono ?_
    rintro e w3 ⟨rfl, hb⟩
    go_wp2
    go_ret
    obtain ⟨hj, e1, e2⟩ := HE.out
    have hs := SortedFrom.none hj (by rw [← e1, ← e2]; exact HC.out.1 HZ.out)
    exact ⟨by rw [hs]; rfl, below_step HB'.out hb⟩
   ·have cz : decide (z < 0) = false := decide_eq_false hz
    have HZ := Aside0.mk hz
    clear hz
    go_wp2_with fail
    refine (impl_compareEdges.calls _ _ _ _ z _ HX.out).mono ?_
    rintro e w3 ⟨rfl, hb⟩
    have HB2 := Aside0.mk (below_step HB'.out hb)
    clear hb
    go_wp2
    go_roundw
    case rel =>
     have hi := HI.out
     have hw := HW.out
     have hij := HIJ.out
     refine ⟨wrap64 (i - 1), rfl, ⟨by omega, by omega, ?_⟩, HB2⟩
     obtain ⟨hj, e1, e2⟩ := HE.out
     have hle : leE es[j] es[j + 1] := by
      rw [← e1, ← e2]
      apply Classical.byContradiction
      intro hn
      have h1 := HC.out.2 hn
      have h2 := HZ.out
      omega
     rw [hw, Int.toNat_natCast]
     refine SortedFrom.down ?_ hj hle
     have := hi.2.2
     rw [hij, show ((j : Int) + 1).toNat = j + 1 by omega] at this
     exact this
    case measure =>
     have hi := HI.out
     have hw := HW.out
     have hij := HIJ.out
     simp [intOf]
     omega
  ·have c0 : decide (0 < i) = false := decide_eq_false h0
   have HZ := Aside0.mk h0
   clear h0
   go_wp2
   go_ret
   have := HI.out
   have h0 := HZ.out
   have hs : SortedFrom es i.toNat := this.2.2
   rw [show i.toNat = 0 by omega] at hs
   have ha := hs.all
   exact ⟨by rw [ha]; rfl, HB.out⟩
end Go.Proofs.Ytnbljcgdgblgoaa.Cf
end

section
namespace Go.Proofs.Ytnbljcgdgblgoaa.P
open Go.RowKit Go.Proofs.YtnbljcgdgblgoaaW.PrintWords Go.Proofs.YtnbljcgdgblgoaaW.PrintLast Go.Proofs.YtnbljcgdgblgoaaW.PrintMore
attribute [local go_sem] max2_int min2_int max_two min_two max_three min_three max_four min_four
set_option linter.unusedVariables false
set_option linter.unusedSimpArgs false
def impl_GraphOk.f (aD : Int) (aC : List (S57)) : Option Bool := some (Cf.gOk aD aC)
theorem impl_GraphOk.calls (aD : Int) (aH : Option Addr) (aG : Nat) (aC : List (S57)) (r : Bool) (w : World) (hr0_1 : Kd.C k57 w aH aC.length aC) (hc0_1 : aC.length ≤ aG) (h : impl_GraphOk.f aD aC = some r) :
  Calls Try.prog 50 #[.agg #[.int .i64 aD, .slice aH aC.length aG]] w fun e w' => e = .returned (.bool r) ∧ Below w.heap.size w w' := by
 obtain rfl := Option.some.inj h; clear h; obtain ⟨k1, hk1⟩ := (Cf.implEdges aD aC).rounds; have HR := zK_ hr0_1; have HK1 := zK_ hk1; clear hr0_1 hk1; go_enter Try.func50, Try.ntmps50; have HB := zK_ (below_alloc (Below.refl w.heap.size w) (.cells #[.int .i64 aD, .slice aH aC.length aG] 25)); have BK := zK_ (heap_alloc_new w (.cells #[.int .i64 aD, .slice aH aC.length aG] 25)); by_cases he : Cf.EsOk aD aC; rotate_left
 ·have HE := zK_ he; replace HK1 := zK_ (HK1.out.trans (congrArg some (decide_eq_false he))); clear he; (go_wp2_with fail); refine (impl_EdgesOk.calls k1 _ _ _ aC false _ (Kd.C_below HR.out HB.out) hc0_1 HK1.out).mono ?_; rintro e w1 ⟨rfl, hb⟩; have HB1 := zK_ (below_step HB.out hb); clear hb; go_wp2; go_ret
  have hg : Cf.gOk aD aC = false := by
   cases hb : Cf.gOk aD aC with
   | false => rfl
   | true => exact absurd (Cf.gOk_iff.1 hb).1 HE.out
  exact ⟨by rw [hg]; rfl, HB1.out⟩
 have HE := zK_ he; replace HK1 := zK_ (HK1.out.trans (congrArg some (decide_eq_true he))); clear he; (go_wp2_with fail); refine (impl_EdgesOk.calls k1 _ _ _ aC true _ (Kd.C_below HR.out HB.out) hc0_1 HK1.out).mono ?_; rintro e w1 ⟨rfl, hb⟩; have HB1 := zK_ (below_step HB.out hb); have pE := zK_ (blk_below BK.out hb); clear hb; have hz0 : w1.cell? ⟨w.heap.size, 0, none⟩ = some (.int .i64 aD) := (blk_cell pE.out 0).trans rfl; have hz1 : w1.cell? ⟨w.heap.size, 1, none⟩ = some (.slice aH aC.length aG) := (blk_cell pE.out 1).trans rfl; (go_wp2_with fail); have HS := zK_ (Cf.isf_calls aC aH aG w1 (Kd.C_below HR.out HB1.out) hc0_1); by_cases hs : Cf.Sorted aC; rotate_left
 ·have hsb : Cf.sortedB aC = false := by
   cases hb : Cf.sortedB aC with
   | false => rfl
   | true => exact absurd (Cf.sortedB_iff.1 hb) hs
  rw [hsb] at HS; have HSo := zK_ hs; clear hs hsb; refine HS.out.mono ?_; rintro e w2 ⟨rfl, hb⟩; have HB2 := zK_ (below_step HB1.out hb); clear hb hz0 hz1; go_wp2; go_ret
  have hg : Cf.gOk aD aC = false := by
   cases hb : Cf.gOk aD aC with
   | false => rfl
   | true => exact absurd (Cf.gOk_iff.1 hb).2.1 HSo.out
  exact ⟨by rw [hg]; rfl, HB2.out⟩
 have HSo := zK_ hs; rw [Cf.sortedB_iff.2 hs] at HS; clear hs; refine HS.out.mono ?_; rintro e w2 ⟨rfl, hb⟩; have HB2 := zK_ (below_step HB1.out hb); have DQ := zK_ (blk_below pE.out hb); clear hb hz0 hz1; have hz0 : w2.cell? ⟨w.heap.size, 0, none⟩ = some (.int .i64 aD) := (blk_cell DQ.out 0).trans rfl; have hz1 : w2.cell? ⟨w.heap.size, 1, none⟩ = some (.slice aH aC.length aG) := (blk_cell DQ.out 1).trans rfl; (go_wp2_with fail); obtain ⟨h1, h6, hl, hes⟩ := HE.out; obtain ⟨n, rfl⟩ := Int.eq_ofNat_of_zero_le (a := aD) (by omega); obtain ⟨k2, hk2⟩ := (Cf.implConn n ⟨by omega, by omega⟩ aC (by omega) hes).rounds; refine (impl_connected.calls k2 _ _ _ aC (Cf.joinedB n aC) _ (Kd.C_below HR.out HB2.out) hc0_1 hk2).mono ?_; rintro e w3 ⟨rfl, hd⟩; have HB3 := zK_ (below_step HB2.out hd); clear hd hk2 h1 h6 hl hes
 have hg : Cf.gOk n aC = Cf.joinedB n aC := by
  rw [Bool.eq_iff_iff, Cf.gOk_iff, Cf.joinedB_iff]; exact ⟨fun h => h.2.2, fun h => ⟨HE.out, HSo.out, h⟩⟩
 have HG := zK_ hg; clear hg; generalize Cf.joinedB n aC = z at HG ⊢; cases z
 ·go_wp2; go_ret; exact ⟨by rw [HG.out]; rfl, HB3.out⟩
 ·go_wp2; go_ret; exact ⟨by rw [HG.out]; rfl, HB3.out⟩
def impl_isVertex.f (aD : Int) (aC : List (S57)) (a1 : Int) : Option (Bool) := (impl_GraphOk.f aD aC).bind fun aQ => (if aQ = true then ((impl_within.f a1 0 (wrap64 (aD - 1))).bind fun bQ => (some bQ)) else (some false))
theorem impl_isVertex.calls (aD : Int) (aH : Option Addr) (aG : Nat) (aC : List (S57)) (a1 : Int) (r : Bool) (w : World) (hr0_1 : Kd.C k57 w aH aC.length aC) (hc0_1 : aC.length ≤ aG) (h : impl_isVertex.f aD aC a1 = some r) :
  Calls Try.prog 47 #[.agg #[.int .i64 aD, .slice aH aC.length aG], .int .i64 a1] w fun e w' => e = .returned (.bool r) ∧ Below w.heap.size w w' := by
 have hu25 := Try.underlying25; have bJ := zK_ hr0_1; have bE := zK_ hc0_1; clear hr0_1 hc0_1; have HB := zK_ (Below.refl w.heap.size w); have H : ((impl_GraphOk.f aD aC).bind fun aQ => (if aQ = true then ((impl_within.f a1 0 (wrap64 (aD - 1))).bind fun bQ => (some bQ)) else (some false))) = some r := h; clear h; obtain ⟨aQ, A30, H⟩ := zO_ H; (try dsimp only at H); have A3 := zK_ A30; clear A30; by_cases c4 : aQ = true; rotate_left
 ·replace c4 := Bool.eq_false_iff.mpr c4; subst c4; rw [if_neg (show ¬ (false = true) by decide)] at H; obtain rfl := Option.some.inj H; go_enter Try.func47, Try.ntmps47; (go_wp2_with (first | ((with_reducible refine gate_dst (N := 2) rfl ?_); refine box_event ?hg (N := 2) ?hd (cs := #[.int .i64 aD, .slice aH aC.length aG]) (t := 25) ?hr ?_; (case hd => rfl); (case hg => rfl); (case hr => exact zz9); intro aE hg w10 hbox hb; have n_ := zA4 (below_step zz1 hb) hbox (zz10 : w.heap.size ≤ aE) (zz10 : w.heap.size ≤ aE); clear HB; obtain ⟨HB, aA, GW101, GE101⟩ := n_; clear hb hbox hg; have jB := zC20 aA; have jA := zC21 aA; have i7 := blk_frozen aA.out 0; have i6 := blk_frozen aA.out 1) | ((with_reducible refine gate_callee (f := 50) rfl ?_); refine goesL_ (some 6) rfl rfl Try.func50 (by kernel_rfl) rfl #[.agg #[.int .i64 aD, .slice aH aC.length aG]] rfl zz3 ?_; (with_reducible refine (impl_GraphOk.calls aD _ _ aC false _ ?side1 ?side2 A3.out).mono ?_); (case side1 => exact zz6); (case side2 => exact bE.out); rintro e w12 ⟨rfl, hb⟩; refine ⟨_, rfl, ?_⟩; have n_ := zA2 (blk_below (g := aE) (o := .cells #[.int .i64 aD, .slice aH aC.length aG] 25 (0, 0)) zz2 hb) (below_step zz0 hb); clear aA HB; obtain ⟨aA, HB⟩ := n_; clear hb))); go_ret; exact ⟨zz7, zz0⟩
 subst c4; rw [if_pos rfl] at H; obtain ⟨bQ, A50, H⟩ := zO_ H; (try dsimp only at H); have A5 := zK_ A50; clear A50; obtain rfl := Option.some.inj H; go_enter Try.func47, Try.ntmps47; (go_wp2_with (first | ((with_reducible refine gate_dst (N := 2) rfl ?_); refine box_event ?hg (N := 2) ?hd (cs := #[.int .i64 aD, .slice aH aC.length aG]) (t := 25) ?hr ?_; (case hd => rfl); (case hg => rfl); (case hr => exact zz9); intro aE hg w6 hbox hb; have n_ := zA4 (below_step zz1 hb) hbox (zz10 : w.heap.size ≤ aE) (zz10 : w.heap.size ≤ aE); clear HB; obtain ⟨HB, aA, GW101, GE101⟩ := n_; clear hb hbox hg; have eO := zC20 aA; have eM := zC21 aA; have eI := blk_frozen aA.out 0; have eH := blk_frozen aA.out 1) | ((with_reducible refine gate_callee (f := 50) rfl ?_); refine goesL_ (some 6) rfl rfl Try.func50 (by kernel_rfl) rfl #[.agg #[.int .i64 aD, .slice aH aC.length aG]] rfl zz3 ?_; (with_reducible refine (impl_GraphOk.calls aD _ _ aC true _ ?side1 ?side2 A3.out).mono ?_); (case side1 => exact zz6); (case side2 => exact bE.out); rintro e w8 ⟨rfl, hb⟩; refine ⟨_, rfl, ?_⟩; have n_ := zA2 (blk_below (g := aE) (o := .cells #[.int .i64 aD, .slice aH aC.length aG] 25 (0, 0)) zz2 hb) (below_step zz0 hb); clear aA HB; obtain ⟨aA, HB⟩ := n_; clear hb; have fD := zC20 aA; have fC := zC21 aA; have fB := blk_frozen aA.out 0; have fA := blk_frozen aA.out 1) | (go_at_call 39; (with_reducible refine (impl_within.calls a1 0 (wrap64 (aD - 1)) bQ _ A5.out).mono ?_); rintro e w' ⟨rfl, ⟨nd, rfl⟩⟩))); go_ret; exact ⟨zz7, zz0⟩
def impl_allWithin.l0 : Nat → Int → Int → List Int → Int → Int → Option (Bool)
 | 0, _, _, _, _, _ => none
 | k + 1, x1, x2, x9, fF, d5 => if d5 < fF then (if 0 ≤ d5 then (if d5 < (x9.length : Int) then ((impl_within.f (rd x9 d5) x1 x2).bind fun aQ => (if aQ = true then (impl_allWithin.l0 k x1 x2 x9 fF (wrap64 (d5 + 1))) else (some false))) else (none)) else (none)) else (some true)
def impl_allWithin.f (k : Nat) (l0 : List Int) (a1 : Int) (a2 : Int) : Option (Bool) := impl_allWithin.l0 k a1 a2 l0 (l0.length : Int) 0
theorem impl_allWithin.mono_l : ∀ k, (∀ y0 y1 y2 y3 y4, LeO (impl_allWithin.l0 k y0 y1 y2 y3 y4) (impl_allWithin.l0 (k + 1) y0 y1 y2 y3 y4))
 | 0 => fun _ _ _ _ _ r h => by simp [impl_allWithin.l0] at h
 | k + 1 => by
  have ih0 := impl_allWithin.mono_l k
  ·intro y0 y1 y2 y3 y4
   unfold impl_allWithin.l0
   exact zm0
theorem impl_allWithin.mono : ∀ a0 a1 a2 k, LeO (impl_allWithin.f k a0 a1 a2) (impl_allWithin.f (k + 1) a0 a1 a2) := by
 intro a0 a1 a2 k; have ih0 := impl_allWithin.mono_l k; unfold impl_allWithin.f; exact zm0
theorem impl_allWithin.calls (k : Nat) (A0 : Option Addr) (c0 : Nat) (l0 : List Int) (a1 : Int) (a2 : Int) (r : Bool) (w : World) (hr0 : Kd.C (Kd.int .i64) w A0 l0.length l0) (hc0 : l0.length ≤ c0) (h : impl_allWithin.f k l0 a1 a2 = some r) :
  Calls Try.prog 51 #[.slice A0 l0.length c0, .int .i64 a1, .int .i64 a2] w fun e w' => e = .returned (.bool r) ∧ Drawn0 w w' := by
 have HR0 := zK_ hr0; have HC0 := zK_ hc0; clear hr0 hc0; have H : (impl_allWithin.l0 k a1 a2 l0 (l0.length : Int) 0) = some r := h; clear h; have H' := zK_ H; clear H; go_enter Try.func51, Try.ntmps51; go_wp2; (go_loopg [11] k (fun kq v11 w' => ∃ (aM : Int), v11 = .int .i64 aM ∧ Aside0 (impl_allWithin.l0 kq a1 a2 l0 (l0.length : Int) aM = some r) ∧ Aside0 (kq ≤ k) ∧ Drawn0 w w')); case atStart => exact ⟨(0), zz5, H', ⟨Nat.le_refl _⟩, by repeat (first | exact Drawn0.refl _ | apply Drawn0.step)⟩
 case round =>
  clear H'; (try clear p2); obtain ⟨aM, rfl, HA, HK1, ⟨m1, rfl⟩⟩ := hrel
  cases gk with
  | zero => exact absurd HA.out (by simp [impl_allWithin.l0])
  | succ k1 =>
   have H := HA.out; clear HA; simp only [impl_allWithin.l0] at H; by_cases c4 : aM < (l0.length : Int); rotate_left
   ·rw [if_neg c4] at H; have dI := decide_eq_false c4; clear c4; obtain rfl := Option.some.inj H; go_wp2; go_ret; exact ⟨zz5, by repeat (first | exact Drawn0.refl _ | apply Drawn0.step)⟩
   rw [if_pos c4] at H; have dI := decide_eq_true c4; clear c4; by_cases c5 : 0 ≤ aM; rotate_left
   ·rw [if_neg c5] at H; exact absurd H (by simp)
   rw [if_pos c5] at H; have dS := decide_eq_true c5; clear c5; by_cases c6 : aM < (l0.length : Int); rotate_left
   ·rw [if_neg c6] at H; exact absurd H (by simp)
   rw [if_pos c6] at H; have eS := decide_eq_true c6; clear c6; obtain ⟨aQ, A70, H⟩ := zO_ H; (try dsimp only at H); have A7 := zK_ A70; clear A70; by_cases c8 : aQ = true; rotate_left
   ·replace c8 := Bool.eq_false_iff.mpr c8; subst c8; rw [if_neg (show ¬ (false = true) by decide)] at H; obtain rfl := Option.some.inj H; have p101 : 0 ≤ (aM : Int) := of_decide_eq_true zz4; have q101 : aM < (l0.length : Int) := of_decide_eq_true zz4; obtain ⟨cR, e101, a7⟩ := Kd.at_int HR0.out aM p101 q101; cases e101; replace p101 := eq_true p101; replace q101 := eq_true q101; (go_wp2_with (first | ((with_reducible refine gate_callee (f := 39) rfl ?_); refine goesL_ (some 18) rfl rfl Try.func39 (by kernel_rfl) rfl #[.int .i64 (rd l0 aM), .int .i64 a1, .int .i64 a2] rfl zz3 ?_; (with_reducible refine (impl_within.calls (rd l0 aM) a1 a2 false _ A7.out).mono ?_); rintro e w' ⟨rfl, ⟨nd, rfl⟩⟩; refine ⟨_, rfl, ?_⟩))); go_ret; exact ⟨zz5, by repeat (first | exact Drawn0.refl _ | apply Drawn0.step)⟩
   subst c8; rw [if_pos rfl] at H; have H' := zK_ H; clear H; have p101 : 0 ≤ (aM : Int) := of_decide_eq_true zz4; have q101 : aM < (l0.length : Int) := of_decide_eq_true zz4; obtain ⟨cR, e101, a7⟩ := Kd.at_int HR0.out aM p101 q101; cases e101; replace p101 := eq_true p101; replace q101 := eq_true q101; (go_wp2_with (first | ((with_reducible refine gate_callee (f := 39) rfl ?_); refine goesL_ (some 18) rfl rfl Try.func39 (by kernel_rfl) rfl #[.int .i64 (rd l0 aM), .int .i64 a1, .int .i64 a2] rfl zz3 ?_; (with_reducible refine (impl_within.calls (rd l0 aM) a1 a2 true _ A7.out).mono ?_); rintro e w' ⟨rfl, ⟨nd, rfl⟩⟩; refine ⟨_, rfl, ?_⟩))); go_roundg k1; (case measure => have := HK1.out; omega); case rel => exact ⟨(wrap64 (aM + 1)), zz5, H', ⟨zz36⟩, by repeat (first | exact Drawn0.refl _ | apply Drawn0.step)⟩
def impl_MatrixOk.l0 : Nat → List (List Int) → List (List Int) → Int → Int → Option (Bool)
 | 0, _, _, _, _ => none
 | k + 1, x0, x8, x9, fF => if fF < x9 then (if 0 ≤ fF then (if fF < (x8.length : Int) then (if ((rd_L3 x8 fF).length : Int) = (x0.length : Int) then ((impl_allWithin.f k (rd_L3 x8 fF) (-500) 500).bind fun aQ => (if aQ = true then (impl_MatrixOk.l0 k x0 x8 x9 (wrap64 (fF + 1))) else (some false))) else (some false)) else (none)) else (none)) else (some true)
def impl_MatrixOk.f (k : Nat) (l0 : List (List Int)) : Option (Bool) := if (l0.length : Int) > 6 then (some false) else (impl_MatrixOk.l0 k l0 l0 (l0.length : Int) 0)
theorem impl_MatrixOk.mono_l : ∀ k, (∀ y0 y1 y2 y3, LeO (impl_MatrixOk.l0 k y0 y1 y2 y3) (impl_MatrixOk.l0 (k + 1) y0 y1 y2 y3))
 | 0 => fun _ _ _ _ r h => by simp [impl_MatrixOk.l0] at h
 | k + 1 => by
  have ih0 := impl_MatrixOk.mono_l k
  ·intro y0 y1 y2 y3
   unfold impl_MatrixOk.l0
   exact zm14
theorem impl_MatrixOk.mono : ∀ a0 k, LeO (impl_MatrixOk.f k a0) (impl_MatrixOk.f (k + 1) a0) := by
 intro a0 k; have ih0 := impl_MatrixOk.mono_l k; unfold impl_MatrixOk.f; exact zm14
theorem impl_MatrixOk.calls (k : Nat) (A0 : Option Addr) (c0 : Nat) (l0 : List (List Int)) (r : Bool) (w : World) (hr0 : Kd.C (Kd.slice 3 (Kd.int .i64)) w A0 l0.length l0) (hc0 : l0.length ≤ c0) (h : impl_MatrixOk.f k l0 = some r) :
  Calls Try.prog 143 #[.slice A0 l0.length c0] w fun e w' => e = .returned (.bool r) ∧ Drawn0 w w' := by
 have HR0 := zK_ hr0; have HC0 := zK_ hc0; clear hr0 hc0; have H : (if (l0.length : Int) > 6 then (some false) else (impl_MatrixOk.l0 k l0 l0 (l0.length : Int) 0)) = some r := h; clear h; by_cases c2 : (l0.length : Int) > 6
 ·rw [if_pos c2] at H; have j9 : decide (6 < (l0.length : Int)) = true := decide_eq_true c2; have mB : decide (6 < l0.length) = true := decide_eq_true (by omega); clear c2; obtain rfl := Option.some.inj H; go_enter Try.func143, Try.ntmps143; go_wp2; go_ret; exact ⟨zz5, by repeat (first | exact Drawn0.refl _ | apply Drawn0.step)⟩
 rw [if_neg c2] at H; have j9 : decide (6 < (l0.length : Int)) = false := decide_eq_false c2; have mB : decide (6 < l0.length) = false := decide_eq_false (by omega); clear c2; have H' := zK_ H; clear H; go_enter Try.func143, Try.ntmps143; go_wp2; (go_loopg [10] k (fun kq v10 w' => ∃ (d6 : Int), v10 = .int .i64 d6 ∧ Aside0 (impl_MatrixOk.l0 kq l0 l0 (l0.length : Int) d6 = some r) ∧ Aside0 (kq ≤ k) ∧ Drawn0 w w')); case atStart => exact ⟨(0), zz5, H', ⟨Nat.le_refl _⟩, by repeat (first | exact Drawn0.refl _ | apply Drawn0.step)⟩
 case round =>
  clear H'; (try clear c1); (try clear c2); (try clear j9); (try clear mB); (try clear p2); obtain ⟨d6, rfl, HA, HK1, ⟨m1, rfl⟩⟩ := hrel
  cases gk with
  | zero => exact absurd HA.out (by simp [impl_MatrixOk.l0])
  | succ k1 =>
   have H := HA.out; clear HA; simp only [impl_MatrixOk.l0] at H; by_cases c3 : d6 < (l0.length : Int); rotate_left
   ·rw [if_neg c3] at H; have dU := decide_eq_false c3; (try (have iC := dU; first | rw [cO] at iC | rw [← cO] at iC)); clear c3; obtain rfl := Option.some.inj H; go_wp2; go_ret; exact ⟨zz5, by repeat (first | exact Drawn0.refl _ | apply Drawn0.step)⟩
   rw [if_pos c3] at H; have dU := decide_eq_true c3; clear c3; by_cases c4 : 0 ≤ d6; rotate_left
   ·rw [if_neg c4] at H; exact absurd H (by simp)
   rw [if_pos c4] at H; have dI := decide_eq_true c4; clear c4; by_cases c5 : d6 < (l0.length : Int); rotate_left
   ·rw [if_neg c5] at H; exact absurd H (by simp)
   rw [if_pos c5] at H; have dS := decide_eq_true c5; clear c5; by_cases c6 : ((rd_L3 l0 d6).length : Int) = (l0.length : Int); rotate_left
   ·rw [if_neg c6] at H; have eS : (((rd_L3 l0 d6).length : Int) == (l0.length : Int)) = false := beq_eq_false_iff_ne.mpr c6; have lB : (((rd_L3 l0 d6).length : Int) != (l0.length : Int)) = true := bne_iff_ne.mpr c6; (have rW : ((rd_L3 l0 d6).length == l0.length) = false := by first | simpa using c6 | (simp at c6 ⊢; omega)); obtain rfl := Option.some.inj H; have p101 : 0 ≤ (d6 : Int) := of_decide_eq_true zz4; have q101 : d6 < (l0.length : Int) := of_decide_eq_true zz4; obtain ⟨cR, A101_0, c101_0, e101, a7, cO, hi101_0⟩ := at_L3 HR0.out d6 p101 q101; cases e101; have HR101_0 := zK_ hi101_0; have HC101_0 := zK_ cO; clear hi101_0 cO; replace p101 := eq_true p101; replace q101 := eq_true q101; go_wp2; go_ret; exact ⟨zz5, by repeat (first | exact Drawn0.refl _ | apply Drawn0.step)⟩
   rw [if_pos c6] at H; have eS : (((rd_L3 l0 d6).length : Int) == (l0.length : Int)) = true := beq_iff_eq.mpr c6; have lB : (((rd_L3 l0 d6).length : Int) != (l0.length : Int)) = false := bne_eq_false_iff_eq.mpr c6; (have rW : ((rd_L3 l0 d6).length == l0.length) = true := by first | simpa using c6 | (simp at c6 ⊢; omega)); clear c6; obtain ⟨aQ, A70, H⟩ := zO_ H; (try dsimp only at H); have A7 := zK_ A70; clear A70; by_cases c8 : aQ = true; rotate_left
   ·replace c8 := Bool.eq_false_iff.mpr c8; subst c8; rw [if_neg (show ¬ (false = true) by decide)] at H; obtain rfl := Option.some.inj H; have p101 : 0 ≤ (d6 : Int) := of_decide_eq_true zz4; have q101 : d6 < (l0.length : Int) := of_decide_eq_true zz4; obtain ⟨cR, A101_0, c101_0, e101, a7, cO, hi101_0⟩ := at_L3 HR0.out d6 p101 q101; cases e101; have HR101_0 := zK_ hi101_0; have HC101_0 := zK_ cO; clear hi101_0 cO; replace p101 := eq_true p101; replace q101 := eq_true q101; (go_wp2_with (first | (go_at_call 51; (with_reducible refine (impl_allWithin.calls k1 _ _ (rd_L3 l0 d6) (-500) 500 false _ ?side1 ?side2 A7.out).mono ?_); (case side1 => repeat (first | exact HR101_0.out | (with_reducible refine Kd.C_alloc ?_ _) | (with_reducible refine Kd.C_drewN ?_ _) | (with_reducible refine Kd.C_drew ?_))); (case side2 => exact HC101_0.out); rintro e w' ⟨rfl, ⟨nd, rfl⟩⟩))); go_ret; exact ⟨zz5, by repeat (first | exact Drawn0.refl _ | apply Drawn0.step)⟩
   subst c8; rw [if_pos rfl] at H; have H' := zK_ H; clear H; have p101 : 0 ≤ (d6 : Int) := of_decide_eq_true zz4; have q101 : d6 < (l0.length : Int) := of_decide_eq_true zz4; obtain ⟨cR, A101_0, c101_0, e101, a7, cO, hi101_0⟩ := at_L3 HR0.out d6 p101 q101; cases e101; have HR101_0 := zK_ hi101_0; have HC101_0 := zK_ cO; clear hi101_0 cO; replace p101 := eq_true p101; replace q101 := eq_true q101; (go_wp2_with (first | (go_at_call 51; (with_reducible refine (impl_allWithin.calls k1 _ _ (rd_L3 l0 d6) (-500) 500 true _ ?side1 ?side2 A7.out).mono ?_); (case side1 => repeat (first | exact HR101_0.out | (with_reducible refine Kd.C_alloc ?_ _) | (with_reducible refine Kd.C_drewN ?_ _) | (with_reducible refine Kd.C_drew ?_))); (case side2 => exact HC101_0.out); rintro e w' ⟨rfl, ⟨nd, rfl⟩⟩))); go_roundg k1; (case measure => have := HK1.out; omega); case rel => exact ⟨(wrap64 (d6 + 1)), zz5, H', ⟨zz36⟩, by repeat (first | exact Drawn0.refl _ | apply Drawn0.step)⟩
mutual
def impl_determinant.l0 : Nat → List (List Int) → List Int → Int → Int → Int → List Int → Int → Int → Option (Int)
 | 0, _, _, _, _, _, _, _, _ => none
 | k + 1, x0, x1, x2, x7, x8, nB, sJ, k8 => if k8 < sJ then (if 0 ≤ k8 then (if k8 < (nB.length : Int) then (if (Go.bits .and .i64 (shr .i64 x2 k8) 1) = 0 then (impl_determinant.l0 k x0 x1 x2 x7 x8 nB sJ (wrap64 (k8 + 1))) else (if (rd nB k8) = 0 then (impl_determinant.l0 k x0 x1 x2 x7 (wrap64 (-x8)) nB sJ (wrap64 (k8 + 1))) else (if 1 ≤ (x1.length : Int) then ((impl_determinant.f k x0 (x1.drop 1) (Go.bits .andNot .i64 x2 (shl .i64 1 k8))).bind fun dA => (impl_determinant.l0 k x0 x1 x2 (wrap64 (x7 + (wrap64 ((wrap64 (x8 * (rd nB k8))) * dA)))) (wrap64 (-x8)) nB sJ (wrap64 (k8 + 1)))) else (none)))) else (none)) else (none)) else (some x7)
def impl_determinant.f : Nat → List (List Int) → List Int → Int → Option (Int)
 | 0, _, _, _ => none
 | k + 1, l0, l1, a2 => if (l1.length : Int) = 0 then (some 1) else (if 0 < (l1.length : Int) then (if 0 ≤ (rd l1 0) then (if (rd l1 0) < (l0.length : Int) then (impl_determinant.l0 k l0 l1 a2 0 1 (rd_L3 l0 (rd l1 0)) ((rd_L3 l0 (rd l1 0)).length : Int) 0) else (none)) else (none)) else (none))
end
theorem impl_determinant.mono_l : ∀ k, (∀ y0 y1 y2, LeO (impl_determinant.f k y0 y1 y2) (impl_determinant.f (k + 1) y0 y1 y2)) ∧ (∀ y0 y1 y2 y3 y4 y5 y6 y7, LeO (impl_determinant.l0 k y0 y1 y2 y3 y4 y5 y6 y7) (impl_determinant.l0 (k + 1) y0 y1 y2 y3 y4 y5 y6 y7))
 | 0 => ⟨fun _ _ _ r h => by simp [impl_determinant.f] at h, fun _ _ _ _ _ _ _ _ r h => by simp [impl_determinant.l0] at h⟩
 | k + 1 => by
  obtain ⟨ih0, ih1⟩ := impl_determinant.mono_l k
  refine ⟨?_, ?_⟩
  ·intro y0 y1 y2
   unfold impl_determinant.f
   exact zm1
  ·intro y0 y1 y2 y3 y4 y5 y6 y7
   unfold impl_determinant.l0
   exact zm1
theorem impl_determinant.mono : ∀ a0 a1 a2 k, LeO (impl_determinant.f k a0 a1 a2) (impl_determinant.f (k + 1) a0 a1 a2) := by
 intro a0 a1 a2 k; obtain ⟨ih0, ih1⟩ := impl_determinant.mono_l k; exact ih0 a0 a1 a2
def impl_determinant.T9 : Bool × List (List Nat × List Nat) := (true, [([], []), ([], []), ([], []), ([1, 2], [1, 2]), ([], []), ([], []), ([5], [5]), ([], []), ([], []), ([8], [8]), ([7, 9], [7, 9]), ([4, 6, 10], [4, 6, 10]), ([3, 11], [3, 11]), ([0, 12], [0, 12]), ([13, 11, 0, 1, 2, 3, 4, 5, 6, 7, 8, 9, 10, 11, 12, 13], [0, 13])])
def impl_determinant.B9 : List Nat := [0, 0, 0, 6, 0, 0, 32, 0, 0, 256, 896, 2032, 4094, 8191, 16383]
theorem impl_determinant.tab9 : rtab .any (opsOf Try.f144 9) = impl_determinant.T9 := by kernel_rfl
theorem impl_determinant.bits9 : waitsOk impl_determinant.T9.2 impl_determinant.B9 = true := by kernel_rfl
theorem impl_determinant.calls (k : Nat) : ∀ (A0 : Option Addr) (c0 : Nat) (l0 : List (List Int)) (A1 : Option Addr) (c1 : Nat) (l1 : List Int) (a2 : Int) (r : Int) (w : World) (hr0 : Kd.C (Kd.slice 3 (Kd.int .i64)) w A0 l0.length l0) (hc0 : l0.length ≤ c0) (hr1 : Kd.C (Kd.int .i64) w A1 l1.length l1) (hc1 : l1.length ≤ c1) (h : impl_determinant.f k l0 l1 a2 = some r),
  Calls Try.prog 144 #[.slice A0 l0.length c0, .slice A1 l1.length c1, .int .i64 a2] w fun e w' => e = .returned (.int .i64 r) ∧ Below w.heap.size w w' := by
 induction k using Nat.strongRecOn with
 | _ k ih =>
 intro A0 c0 l0 A1 c1 l1 a2 r w hr0 hc0 hr1 hc1 h
 cases k with
 | zero => exact absurd h (by simp [impl_determinant.f])
 | succ k =>
 simp only [impl_determinant.f] at h; have HR0 := zK_ hr0; have HC0 := zK_ hc0; clear hr0 hc0; have HR1 := zK_ hr1; have HC1 := zK_ hc1; clear hr1 hc1; have HB := zK_ (Below.refl w.heap.size w); have H : (if (l1.length : Int) = 0 then (some 1) else (if 0 < (l1.length : Int) then (if 0 ≤ (rd l1 0) then (if (rd l1 0) < (l0.length : Int) then (impl_determinant.l0 k l0 l1 a2 0 1 (rd_L3 l0 (rd l1 0)) ((rd_L3 l0 (rd l1 0)).length : Int) 0) else (none)) else (none)) else (none))) = some r := h; clear h; by_cases c4 : (l1.length : Int) = 0
 ·rw [if_pos c4] at H; have dI : ((l1.length : Int) == 0) = true := beq_iff_eq.mpr c4; have j8 : ((l1.length : Int) != 0) = false := bne_eq_false_iff_eq.mpr c4; clear c4; obtain rfl := Option.some.inj H; go_enter Try.func144, Try.ntmps144; go_wp2; go_ret; exact ⟨zz7, zz1⟩
 rw [if_neg c4] at H; have dI : ((l1.length : Int) == 0) = false := beq_eq_false_iff_ne.mpr c4; have j8 : ((l1.length : Int) != 0) = true := bne_iff_ne.mpr c4; (have tI : ¬ (l1 = []) := fun h_ => c4 (by rw [h_]; rfl)); by_cases c5 : 0 < (l1.length : Int); rotate_left
 ·rw [if_neg c5] at H; exact absurd H (by simp)
 rw [if_pos c5] at H; have dS := decide_eq_true c5; have mA : decide (0 < l1.length) = true := decide_eq_true (by omega); clear c5; by_cases c6 : 0 ≤ (rd l1 0); rotate_left
 ·rw [if_neg c6] at H; exact absurd H (by simp)
 rw [if_pos c6] at H; have eS := decide_eq_true c6; clear c6; by_cases c7 : (rd l1 0) < (l0.length : Int); rotate_left
 ·rw [if_neg c7] at H; exact absurd H (by simp)
 rw [if_pos c7] at H; have d4 := decide_eq_true c7; clear c7; have H' := zK_ H; clear H; have p101 : 0 ≤ (0 : Int) := (by omega); have q101 : 0 < (l1.length : Int) := of_decide_eq_true zz4; obtain ⟨cR, e101, a7⟩ := Kd.at_int HR1.out 0 p101 q101; cases e101; have qi101 : (0 < l1.length) = True := eq_true (by omega); (try rw [show ((0 : Int)).toNat = 0 from rfl] at a7); (try rw [Addr.add_zero'] at a7); replace p101 := eq_true p101; replace q101 := eq_true q101; have p102 : 0 ≤ ((rd l1 0) : Int) := of_decide_eq_true zz4; have q102 : (rd l1 0) < (l0.length : Int) := of_decide_eq_true zz4; obtain ⟨dB, A102_0, c102_0, e102, bA, gQ, hi102_0⟩ := at_L3 HR0.out (rd l1 0) p102 q102; cases e102; have HR102_0 := zK_ hi102_0; have HC102_0 := zK_ gQ; clear hi102_0 gQ; replace p102 := eq_true p102; replace q102 := eq_true q102; go_enter Try.func144, Try.ntmps144; go_wp2; (go_loopg [7, 8, 21] k (fun kq v7 v8 v21 w' => ∃ (b9 : Int) (bD : Int) (bX : Int), v7 = .int .i64 b9 ∧ v8 = .int .i64 bD ∧ v21 = .int .i64 bX ∧ Aside0 (impl_determinant.l0 kq l0 l1 a2 b9 bD (rd_L3 l0 (rd l1 0)) ((rd_L3 l0 (rd l1 0)).length : Int) bX = some r) ∧ Aside0 (kq ≤ k) ∧ Aside0 (Below w.heap.size w w'))); case atStart => exact ⟨(0), (1), (0), zz5, zz5, zz5, H', ⟨Nat.le_refl _⟩, ⟨zz1⟩⟩
 case round =>
  clear H'; (try clear c1); (try clear p1); (try clear q1); (try clear hx1); (try clear qi1); (try clear p2); (try clear c4); (try clear dI); (try clear j8); (try clear tI); (try clear c5); (try clear dS); (try clear mA); (try clear c6); (try clear eS); (try clear c7); (try clear d4); (try clear a7); (try clear bA); (try clear p101); (try clear p102); (try clear q101); (try clear q102); obtain ⟨b9, bD, bX, rfl, rfl, rfl, HA, HK1, HB⟩ := hrel
  cases gk with
  | zero => exact absurd HA.out (by simp [impl_determinant.l0])
  | succ k1 =>
   have H := HA.out; clear HA; simp only [impl_determinant.l0] at H; by_cases c8 : bX < ((rd_L3 l0 (rd l1 0)).length : Int); rotate_left
   ·rw [if_neg c8] at H; have fL := decide_eq_false c8; (try (have iA := fL; first | rw [gQ] at iA | rw [← gQ] at iA)); clear c8; obtain rfl := Option.some.inj H; go_wp2; go_ret; exact ⟨zz7, zz1⟩
   rw [if_pos c8] at H; have fL := decide_eq_true c8; (try (have iA := fL; first | rw [gQ] at iA | rw [← gQ] at iA)); clear c8; by_cases c9 : 0 ≤ bX; rotate_left
   ·rw [if_neg c9] at H; exact absurd H (by simp)
   rw [if_pos c9] at H; have fN := decide_eq_true c9; clear c9; by_cases c10 : bX < ((rd_L3 l0 (rd l1 0)).length : Int); rotate_left
   ·rw [if_neg c10] at H; exact absurd H (by simp)
   rw [if_pos c10] at H; have g3 := decide_eq_true c10; (try (have k6 := g3; first | rw [gQ] at k6 | rw [← gQ] at k6)); clear c10; have k5 := eq_true (of_decide_eq_true zz4 : 0 ≤ bX); obtain ⟨bL, jD⟩ : ∃ j_ : Int, (shr .i64 a2 bX) = j_ := ⟨_, rfl⟩; (replace H : (if (Go.bits .and .i64 (bL) 1) = 0 then (impl_determinant.l0 k1 l0 l1 a2 b9 bD (rd_L3 l0 (rd l1 0)) ((rd_L3 l0 (rd l1 0)).length : Int) (wrap64 (bX + 1))) else (if (rd (rd_L3 l0 (rd l1 0)) bX) = 0 then (impl_determinant.l0 k1 l0 l1 a2 b9 (wrap64 (-bD)) (rd_L3 l0 (rd l1 0)) ((rd_L3 l0 (rd l1 0)).length : Int) (wrap64 (bX + 1))) else (if 1 ≤ (l1.length : Int) then ((impl_determinant.f k1 l0 (l1.drop 1) (Go.bits .andNot .i64 a2 (shl .i64 1 bX))).bind fun dA => (impl_determinant.l0 k1 l0 l1 a2 (wrap64 (b9 + (wrap64 ((wrap64 (bD * (rd (rd_L3 l0 (rd l1 0)) bX))) * dA)))) (wrap64 (-bD)) (rd_L3 l0 (rd l1 0)) ((rd_L3 l0 (rd l1 0)).length : Int) (wrap64 (bX + 1)))) else (none)))) = some r := by first | (rw [jD] at H; exact H) | (simp only [jD] at H ⊢; exact H)); have zO : (a2 / 2 ^ min bX.toNat 64) = bL := jD; have zK : bX ≤ 64 → (a2 / 2 ^ bX.toNat) = bL := shr_small jD; by_cases c13 : (Go.bits .and .i64 (bL) 1) = 0
   ·rw [if_pos c13] at H; have jE : ((Go.bits .and .i64 (bL) 1) == 0) = true := beq_iff_eq.mpr c13; have qS : ((Go.bits .and .i64 (bL) 1) != 0) = false := bne_eq_false_iff_eq.mpr c13; clear c13; have H' := zK_ H; clear H; have p103 : 0 ≤ (bX : Int) := of_decide_eq_true zz4; have q103 : bX < ((rd_L3 l0 (rd l1 0)).length : Int) := of_decide_eq_true zz4; obtain ⟨bG, e103, aV⟩ := Kd.at_int HR102_0.out bX p103 q103; cases e103; replace aV := (HB.out.cell (World.block_lt_of_cell? w _ aV)).trans aV; replace p103 := eq_true p103; replace q103 := eq_true q103; go_wp2; go_roundg k1; (case measure => have := HK1.out; omega); case rel => exact ⟨(b9), (bD), (wrap64 (bX + 1)), zz5, zz5, zz5, H', ⟨zz36⟩, ⟨zz1⟩⟩
   rw [if_neg c13] at H; have jE : ((Go.bits .and .i64 (bL) 1) == 0) = false := beq_eq_false_iff_ne.mpr c13; have qS : ((Go.bits .and .i64 (bL) 1) != 0) = true := bne_iff_ne.mpr c13; by_cases c14 : (rd (rd_L3 l0 (rd l1 0)) bX) = 0
   ·rw [if_pos c14] at H; have f9 : ((rd (rd_L3 l0 (rd l1 0)) bX) == 0) = true := beq_iff_eq.mpr c14; have qR : ((rd (rd_L3 l0 (rd l1 0)) bX) != 0) = false := bne_eq_false_iff_eq.mpr c14; clear c14; have H' := zK_ H; clear H; have p103 : 0 ≤ (bX : Int) := of_decide_eq_true zz4; have q103 : bX < ((rd_L3 l0 (rd l1 0)).length : Int) := of_decide_eq_true zz4; obtain ⟨bG, e103, aV⟩ := Kd.at_int HR102_0.out bX p103 q103; cases e103; replace aV := (HB.out.cell (World.block_lt_of_cell? w _ aV)).trans aV; replace p103 := eq_true p103; replace q103 := eq_true q103; go_wp2; go_roundg k1; (case measure => have := HK1.out; omega); case rel => exact ⟨(b9), (wrap64 (-bD)), (wrap64 (bX + 1)), zz5, zz5, zz5, H', ⟨zz36⟩, ⟨zz1⟩⟩
   rw [if_neg c14] at H; have f9 : ((rd (rd_L3 l0 (rd l1 0)) bX) == 0) = false := beq_eq_false_iff_ne.mpr c14; have qR : ((rd (rd_L3 l0 (rd l1 0)) bX) != 0) = true := bne_iff_ne.mpr c14; by_cases c15 : 1 ≤ (l1.length : Int); rotate_left
   ·rw [if_neg c15] at H; exact absurd H (by simp)
   rw [if_pos c15] at H; have iY := eq_true c15; have qQ : decide (1 ≤ (l1.length : Int)) = true := decide_eq_true c15; clear c15; have iX := eq_true (of_decide_eq_true zz4 : 0 ≤ bX); obtain ⟨dH, fK⟩ : ∃ j_ : Int, (shl .i64 1 bX) = j_ := ⟨_, rfl⟩; (replace H : ((impl_determinant.f k1 l0 (l1.drop 1) (Go.bits .andNot .i64 a2 (dH))).bind fun dA => (impl_determinant.l0 k1 l0 l1 a2 (wrap64 (b9 + (wrap64 ((wrap64 (bD * (rd (rd_L3 l0 (rd l1 0)) bX))) * dA)))) (wrap64 (-bD)) (rd_L3 l0 (rd l1 0)) ((rd_L3 l0 (rd l1 0)).length : Int) (wrap64 (bX + 1)))) = some r := by first | (rw [fK] at H; exact H) | (simp only [fK] at H ⊢; exact H)); have lU : (IntKind.i64.wrap (1 * 2 ^ min bX.toNat 64)) = dH := fK; have nH : bX ≤ 64 → (IntKind.i64.wrap (1 * 2 ^ bX.toNat)) = dH := shl_small fK; (have zF : (IntKind.i64.wrap (2 ^ min bX.toNat 64)) = dH := by have h_ := lU; rw [Int.one_mul] at h_; exact h_); (have zE : bX ≤ 64 → (IntKind.i64.wrap (2 ^ bX.toNat)) = dH := fun hle_ => by have h_ := nH hle_; rw [Int.one_mul] at h_; exact h_); have zB : (wrap64 (1 * 2 ^ min bX.toNat 64)) = dH := (i64_w _).symm.trans lU; (have zC : bX ≤ 64 → (wrap64 (1 * 2 ^ bX.toNat)) = dH := fun h_ => (i64_w _).symm.trans (nH h_)); obtain ⟨dA, A180, H⟩ := zO_ H; (try dsimp only at H); have A18 := zK_ A180; clear A180; have H' := zK_ H; clear H; have p103 : 0 ≤ (bX : Int) := of_decide_eq_true zz4; have q103 : bX < ((rd_L3 l0 (rd l1 0)).length : Int) := of_decide_eq_true zz4; obtain ⟨bG, e103, aV⟩ := Kd.at_int HR102_0.out bX p103 q103; cases e103; replace aV := (HB.out.cell (World.block_lt_of_cell? w _ aV)).trans aV; replace p103 := eq_true p103; replace q103 := eq_true q103; (try go_wp2); replace HB := zK_ (below_drew1 HB.out); obtain ⟨i020, hi020, _, hsz20, _⟩ := info_parts info3; obtain ⟨A20, hcut20, hA20, hC20⟩ := print_drop_of (P := Try.prog) (Value.int .i64) 0 26 3 .i64 Try.underlying26 hi020 hsz20 (some cR) c1 l1 1 (by omega) (of_decide_eq_true zz4) HC1.out; have HR104 := zK_ (Kd.C_of_reads (h1 := fun _ => rfl) (hA20 _ (Kd.reads_of_C HR1.out))); have HC104 := zK_ hC20; clear hA20 hC20 hi020 hsz20; refine start_ (n := 15) (S := fun w' => True) (ds := []) (zM 15 0) (by kernel_rfl) rfl rfl trivial (fun hHeld => ?_); refine with_tabW impl_determinant.tab9 impl_determinant.bits9 (fun HT_ HW_ => ?_); generalize wr.drew = w19 at HB HR104 hHeld ⊢; refine zQ 0 33 (zM 15 1) ?_
   refine zQ 1 34 (zM 15 3) ?_
   refine zQ 2 35 (zM 15 7) ?_
   refine zQ 3 36 (zM 15 15) ?_
   refine zQ 4 37 (zM 15 31) ?_
   refine zQ 5 38 (zM 15 63) ?_
   refine zQ 6 39 (zM 15 127) ?_
   refine zQ 7 40 (zM 15 255) ?_
   refine zQ 8 41 (zM 15 511) ?_
   refine zQ 9 42 (zM 15 1023) ?_
   refine zQ 10 43 (zM 15 2047) ?_
   refine one_ (i := 11) (N := some 44) (zM 15 4095) rfl rfl (one_of HT_.out (by kernel_rfl)) (by decide) (fun K hK => ?_); refine goes_ Try.func144 (by kernel_rfl) rfl #[.slice (some dB) l0.length c0, .slice A20 (l1.drop 1).length (c1 - 1), .int .i64 (Go.bits .andNot .i64 a2 (dH))] (by rfl) rfl rfl (by (try simp only [List.map_toArray, List.map_cons, List.map_nil]); first | done | (rw [show (l1.drop 1).length = (l1.length - 1) from List.length_drop] <;> rfl) | (simp only [fK]; rfl) | rfl | (simp only [List.length_drop, List.length_take]; rfl)) ?_; (with_reducible refine (ih k1 (by have := HK1.out; omega) _ _ l0 _ _ (l1.drop 1) (Go.bits .andNot .i64 a2 (dH)) dA _ ?side1 ?side2 ?side3 ?side4 A18.out).mono ?_); (case side1 => exact zz46); (case side2 => exact HC0.out); (case side3 => repeat (first | exact (Kd.C_below HR104.out HB.out) | (with_reducible refine Kd.C_alloc ?_ _) | (with_reducible refine Kd.C_drewN ?_ _) | (with_reducible refine Kd.C_drew ?_))); (case side4 => exact HC104.out); rintro e w21 ⟨rfl, hb⟩; refine ⟨_, rfl, ?_⟩; replace HB := zK_ (below_step zz1 hb); clear hb; refine hK.out _ _ trivial (fun hHeld => ?_); clear hK K; refine norm_ (a' := ?_) ?_ ?_; rotate_left
   ·show Act.put _ (some 44) _ = _; exact zzS
   refine zQ 12 45 (zM 15 8191) ?_
   refine zQ 13 46 (zM 15 16383) ?_
   refine zQ 14 7 (zM 15 32767) ?_
   refine done_ (done_of HT_.out (by kernel_rfl)) ?_; (try go_wp2); go_roundg k1; (case measure => have := HK1.out; omega); case rel => exact ⟨(wrap64 (b9 + (wrap64 ((wrap64 (bD * (rd (rd_L3 l0 (rd l1 0)) bX))) * dA)))), (wrap64 (-bD)), (wrap64 (bX + 1)), zz5, zz5, zz5, H', ⟨zz36⟩, ⟨zz1⟩⟩
end Go.Proofs.Ytnbljcgdgblgoaa.P
end

section
namespace Go.Proofs.Ytnbljcgdgblgoaa.P
open Go.RowKit Go.Proofs.YtnbljcgdgblgoaaW.PrintWords Go.Proofs.YtnbljcgdgblgoaaW.PrintLast Go.Proofs.YtnbljcgdgblgoaaW.PrintMore
attribute [local go_sem] max2_int min2_int max_two min_two max_three min_three max_four min_four
set_option linter.unusedVariables false
set_option linter.unusedSimpArgs false
def impl_bitsOf.l0 : Nat → Int → List Int → Int → Option (List Int)
 | 0, _, _, _ => none
 | k + 1, x0, x3, x4 => if 0 ≤ x4 then (if (shr .i64 x0 x4) > 0 then (if (Go.bits .and .i64 (shr .i64 x0 x4) 1) = 1 then (if x3.length < 17592186044416 then (impl_bitsOf.l0 k x0 (x3 ++ [x4]) (wrap64 (x4 + 1))) else (none)) else (impl_bitsOf.l0 k x0 x3 (wrap64 (x4 + 1)))) else (some x3)) else (none)
def impl_bitsOf.f (k : Nat) (a0 : Int) : Option (List Int) := impl_bitsOf.l0 k a0 ([] : List Int) 0
theorem impl_bitsOf.mono_l : ∀ k, (∀ y0 y1 y2, LeO (impl_bitsOf.l0 k y0 y1 y2) (impl_bitsOf.l0 (k + 1) y0 y1 y2))
 | 0 => fun _ _ _ r h => by simp [impl_bitsOf.l0] at h
 | k + 1 => by
  have ih0 := impl_bitsOf.mono_l k
  ·intro y0 y1 y2
   unfold impl_bitsOf.l0
   exact zm0
theorem impl_bitsOf.mono : ∀ a0 k, LeO (impl_bitsOf.f k a0) (impl_bitsOf.f (k + 1) a0) := by
 intro a0 k; have ih0 := impl_bitsOf.mono_l k; unfold impl_bitsOf.f; exact zm0
theorem impl_bitsOf.calls (k : Nat) (a0 : Int) (r : List Int) (w : World) (h : impl_bitsOf.f k a0 = some r) :
  Calls Try.prog 145 #[.int .i64 a0] w fun e w' => ∃ v0_ : Value, e = .returned (v0_) ∧ Kd.R (Kd.int .i64) 3 w' w.heap.size (fun _ => True) v0_ r ∧ Below w.heap.size w w' := by
 have HB := zK_ (Below.refl w.heap.size w); have H : (impl_bitsOf.l0 k a0 ([] : List Int) 0) = some r := h; clear h; have H' := zK_ H; clear H; go_enter Try.func145, Try.ntmps145; go_wp2; (go_loopg [3, 4] k (fun kq v3 v4 w' => ∃ (bP : List Int) (aX : Int), v4 = .int .i64 aX ∧ Aside0 (impl_bitsOf.l0 kq a0 bP aX = some r) ∧ Aside0 (kq ≤ k) ∧ Aside0 (Kd.R (Kd.int .i64) 3 w' w.heap.size (fun _ => True) v3 bP) ∧ Aside0 (Below w.heap.size w w'))); case atStart => exact ⟨(([] : List Int)), (0), zz5, H', ⟨Nat.le_refl _⟩, ⟨zz43⟩, ⟨zz1⟩⟩
 case round =>
  clear H'; (try clear c1); obtain ⟨bP, aX, rfl, HA, HK1, bC, HB⟩ := hrel
  cases gk with
  | zero => exact absurd HA.out (by simp [impl_bitsOf.l0])
  | succ k1 =>
   have H := HA.out; clear HA; simp only [impl_bitsOf.l0] at H; by_cases c2 : 0 ≤ aX; rotate_left
   ·rw [if_neg c2] at H; exact absurd H (by simp)
   rw [if_pos c2] at H; have j9 := eq_true c2; have mB : decide (0 ≤ aX) = true := decide_eq_true c2; clear c2; obtain ⟨pF, pR⟩ : ∃ j_ : Int, (shr .i64 a0 aX) = j_ := ⟨_, rfl⟩; (replace H : (if (pF) > 0 then (if (Go.bits .and .i64 (pF) 1) = 1 then (if bP.length < 17592186044416 then (impl_bitsOf.l0 k1 a0 (bP ++ [aX]) (wrap64 (aX + 1))) else (none)) else (impl_bitsOf.l0 k1 a0 bP (wrap64 (aX + 1)))) else (some bP)) = some r := by first | (rw [pR] at H; exact H) | (simp only [pR] at H ⊢; exact H)); have DA : (a0 / 2 ^ min aX.toNat 64) = pF := pR; have C9 : aX ≤ 64 → (a0 / 2 ^ aX.toNat) = pF := shr_small pR; by_cases c4 : (pF) > 0; rotate_left
   ·rw [if_neg c4] at H; have dI : decide (0 < (pF)) = false := decide_eq_false c4; clear c4; obtain rfl := Option.some.inj H; go_wp2; go_ret; exact ⟨_, by first | rfl | (simp [errW_none, errW_some] <;> rfl) | (simp only [← pR]; first | rfl | (simp [errW_none, errW_some] <;> rfl)) | (simp [*, errW_none, errW_some] <;> rfl), zz18, zz1⟩
   rw [if_pos c4] at H; have dI : decide (0 < (pF)) = true := decide_eq_true c4; clear c4; have dS := eq_true (of_decide_eq_true zz4 : 0 ≤ aX); by_cases c7 : (Go.bits .and .i64 (pF) 1) = 1; rotate_left
   ·rw [if_neg c7] at H; have d4 : ((Go.bits .and .i64 (pF) 1) == 1) = false := beq_eq_false_iff_ne.mpr c7; have lA : ((Go.bits .and .i64 (pF) 1) != 1) = true := bne_iff_ne.mpr c7; have H' := zK_ H; clear H; go_wp2; go_roundg k1; (case measure => have := HK1.out; omega); case rel => exact ⟨(bP), (wrap64 (aX + 1)), zz5, H', ⟨zz36⟩, ⟨zz18⟩, ⟨zz1⟩⟩
   rw [if_pos c7] at H; have d4 : ((Go.bits .and .i64 (pF) 1) == 1) = true := beq_iff_eq.mpr c7; have lA : ((Go.bits .and .i64 (pF) 1) != 1) = false := bne_eq_false_iff_eq.mpr c7; clear c7; by_cases c8 : bP.length < 17592186044416; rotate_left
   ·rw [if_neg c8] at H; exact absurd H (by simp)
   rw [if_pos c8] at H; have AZ := zK_ c8; clear c8; obtain ⟨eY, hy_⟩ : ∃ y_ : List Int, y_ = (bP ++ [aX]) := ⟨_, rfl⟩; (replace H : (impl_bitsOf.l0 k1 a0 eY (wrap64 (aX + 1))) = some r := zzY); have gA := zK_ hy_; clear hy_; have H' := zK_ H; clear H; (go_wp2_with (first | ((with_reducible refine gate_builtin (b := .append) (xs := #[.tmp 16, .tmp 18]) rfl ?_); at_builtin; refine Kd.R_append (Kd.int .i64) (w0 := w) w.heap.size rfl (.tmp 16) (.tmp 18) 26 3 (.int .i64 0) 8 rfl Try.underlying26 info3 rfl (by decide) (by omega) u3 bP aX [.int .i64 aX] (fun _ => True) (fun _ => False) rfl rfl ?aP (fun _ hk => hk.elim) ?aF ?aO ?aB ?aS ?aL ?_; (case aP => exact rfl); (case aB => exact zz1); (case aF => exact (fun _ _ => trivial)); (case aO => exact zz18); (case aS => exact (below_size zz1)); (case aL => have := AZ.out; omega); intro v102 w9 ho hb hg hat; rw [← gA.out] at ho; have n_ := zA2 hb ho; clear HB bC; obtain ⟨HB, j5⟩ := n_; clear ho hb hg hat))); go_roundg k1; (case measure => have := HK1.out; omega); case rel => exact ⟨(eY), (wrap64 (aX + 1)), zz5, H', ⟨zz36⟩, ⟨zz40⟩, ⟨zz1⟩⟩
def impl_Determinant.f (k : Nat) (l0 : List (List Int)) : Option (Int) := (impl_MatrixOk.f k l0).bind fun dG => (if dG = true then ((impl_bitsOf.f k (wrap64 ((shl .i64 1 (l0.length : Int)) - 1))).bind fun aQ => ((impl_determinant.f k l0 aQ (wrap64 ((shl .i64 1 (l0.length : Int)) - 1))).bind fun dA => (some dA))) else (some 0))
theorem impl_Determinant.mono : ∀ a0 k, LeO (impl_Determinant.f k a0) (impl_Determinant.f (k + 1) a0) := by
 intro a0 k; unfold impl_Determinant.f; repeat' first | (with_reducible apply impl_MatrixOk.mono) | (with_reducible apply impl_bitsOf.mono) | (with_reducible apply impl_determinant.mono) | (with_reducible exact LeO.refl _) | (with_reducible exact LeO.none _) | (with_reducible refine LeO.ite ?_ ?_) | (with_reducible refine LeO.bind ?_ (fun _ => ?_)) | apply impl_MatrixOk.mono | apply impl_bitsOf.mono | apply impl_determinant.mono | exact LeO.none _ | refine LeO.ite ?_ ?_ | refine LeO.bind ?_ (fun _ => ?_)
def impl_Determinant.T3 : Bool × List (List Nat × List Nat) := (true, [([], []), ([], []), ([1], [1]), ([2], [2]), ([3], [3]), ([4], [4]), ([], []), ([6], [6]), ([7], [7]), ([8], [8]), ([0, 5, 9, 5], [0, 5, 9]), ([10, 10, 0, 1, 2, 3, 4, 5, 6, 7, 8, 9, 10], [10])])
def impl_Determinant.B3 : List Nat := [0, 0, 2, 6, 14, 30, 0, 64, 192, 448, 1023, 2047]
theorem impl_Determinant.tab3 : rtab .any (opsOf Try.f120 3) = impl_Determinant.T3 := by kernel_rfl
theorem impl_Determinant.bits3 : waitsOk impl_Determinant.T3.2 impl_Determinant.B3 = true := by kernel_rfl
theorem impl_Determinant.calls (k : Nat) (A0 : Option Addr) (c0 : Nat) (l0 : List (List Int)) (r : Int) (w : World) (hr0 : Kd.C (Kd.slice 3 (Kd.int .i64)) w A0 l0.length l0) (hc0 : l0.length ≤ c0) (h : impl_Determinant.f k l0 = some r) :
  Calls Try.prog 120 #[.slice A0 l0.length c0] w fun e w' => e = .returned (.int .i64 r) ∧ Below w.heap.size w w' := by
 have HR0 := zK_ hr0; have HC0 := zK_ hc0; clear hr0 hc0; have HB := zK_ (Below.refl w.heap.size w); have H : ((impl_MatrixOk.f k l0).bind fun dG => (if dG = true then ((impl_bitsOf.f k (wrap64 ((shl .i64 1 (l0.length : Int)) - 1))).bind fun aQ => ((impl_determinant.f k l0 aQ (wrap64 ((shl .i64 1 (l0.length : Int)) - 1))).bind fun dA => (some dA))) else (some 0))) = some r := h; clear h; obtain ⟨dG, A20, H⟩ := zO_ H; (try dsimp only at H); have A2 := zK_ A20; clear A20; by_cases c3 : dG = true; rotate_left
 ·replace c3 := Bool.eq_false_iff.mpr c3; subst c3; rw [if_neg (show ¬ (false = true) by decide)] at H; obtain rfl := Option.some.inj H; go_enter Try.func120, Try.ntmps120; (go_wp2_with (first | ((with_reducible refine gate_callee (f := 143) rfl ?_); refine goesL_ (some 4) rfl rfl Try.func143 (by kernel_rfl) rfl #[.slice A0 l0.length c0] rfl zz3 ?_; (with_reducible refine (impl_MatrixOk.calls k _ _ l0 false _ ?side1 ?side2 A2.out).mono ?_); (case side1 => exact zz24); (case side2 => exact HC0.out); rintro e w' ⟨rfl, ⟨nd, rfl⟩⟩; refine ⟨_, rfl, ?_⟩))); go_ret; exact ⟨zz7, zz1⟩
 subst c3; rw [if_pos rfl] at H; obtain ⟨m9, mM⟩ : ∃ j_ : Int, (shl .i64 1 (l0.length : Int)) = j_ := ⟨_, rfl⟩; (replace H : ((impl_bitsOf.f k (wrap64 ((m9) - 1))).bind fun aQ => ((impl_determinant.f k l0 aQ (wrap64 ((m9) - 1))).bind fun dA => (some dA))) = some r := by first | (rw [mM] at H; exact H) | (simp only [mM] at H ⊢; exact H)); (try rw [mM] at A2); have pQ : (IntKind.i64.wrap (1 * 2 ^ min (l0.length : Int).toNat 64)) = m9 := mM; have pP : (l0.length : Int) ≤ 64 → (IntKind.i64.wrap (1 * 2 ^ (l0.length : Int).toNat)) = m9 := shl_small mM; have uH : (IntKind.i64.wrap (1 * 2 ^ min l0.length 64)) = m9 := pQ; have uG : (l0.length : Int) ≤ 64 → (IntKind.i64.wrap (1 * 2 ^ l0.length)) = m9 := pP; (have C8 : (IntKind.i64.wrap (2 ^ min l0.length 64)) = m9 := by have h_ := uH; rw [Int.one_mul] at h_; exact h_); (have C7 : (l0.length : Int) ≤ 64 → (IntKind.i64.wrap (2 ^ l0.length)) = m9 := fun hle_ => by have h_ := uG hle_; rw [Int.one_mul] at h_; exact h_); (have C6 : (IntKind.i64.wrap (2 ^ min (l0.length : Int).toNat 64)) = m9 := by have h_ := pQ; rw [Int.one_mul] at h_; exact h_); (have C5 : (l0.length : Int) ≤ 64 → (IntKind.i64.wrap (2 ^ (l0.length : Int).toNat)) = m9 := fun hle_ => by have h_ := pP hle_; rw [Int.one_mul] at h_; exact h_); have C3 : (wrap64 (1 * 2 ^ min (l0.length : Int).toNat 64)) = m9 := (i64_w _).symm.trans pQ; (have C4 : (l0.length : Int) ≤ 64 → (wrap64 (1 * 2 ^ (l0.length : Int).toNat)) = m9 := fun h_ => (i64_w _).symm.trans (pP h_)); obtain ⟨aQ, A50, H⟩ := zO_ H; (try dsimp only at H); have A5 := zK_ A50; clear A50; obtain ⟨dA, A70, H⟩ := zO_ H; (try dsimp only at H); have A7 := zK_ A70; clear A70; obtain rfl := Option.some.inj H; go_enter Try.func120, Try.ntmps120; (try go_wp2_with (first | ((with_reducible refine gate_callee (f := 143) rfl ?_); refine goesL_ (some 4) rfl rfl Try.func143 (by kernel_rfl) rfl #[.slice A0 l0.length c0] rfl zz3 ?_; (with_reducible refine (impl_MatrixOk.calls k _ _ l0 true _ ?side1 ?side2 A2.out).mono ?_); (case side1 => exact zz24); (case side2 => exact HC0.out); rintro e w' ⟨rfl, ⟨nd, rfl⟩⟩; refine ⟨_, rfl, ?_⟩))); replace HB := zK_ (below_drew1 (pw_below_drewN HB.out nd)); refine start_ (n := 12) (S := fun w' => True) (ds := []) (zM 12 0) (by kernel_rfl) rfl rfl trivial (fun hHeld => ?_); refine with_tabW impl_Determinant.tab3 impl_Determinant.bits3 (fun HT_ HW_ => ?_); generalize (w.drewN nd).drew = w8 at HB hHeld ⊢; refine zQ 0 6 (zM 12 1) ?_
 refine zQ 1 7 (zM 12 3) ?_
 refine zQ 2 8 (zM 12 7) ?_
 refine zQ 3 9 (zM 12 15) ?_
 refine zQ 4 10 (zM 12 31) ?_
 refine zQ 6 12 (zM 12 95) ?_
 refine zQ 7 13 (zM 12 223) ?_
 refine zQ 8 14 (zM 12 479) ?_
 refine zQ 9 15 (zM 12 991) ?_
 refine one_ (i := 5) (N := some 11) (zM 12 1023) rfl rfl (one_of HT_.out (by kernel_rfl)) (by decide) (fun K hK => ?_); refine goes_ Try.func145 (by kernel_rfl) rfl #[.int .i64 (wrap64 ((m9) - 1))] (by rfl) rfl rfl (by (try simp only [List.map_toArray, List.map_cons, List.map_nil]); first | done | (simp only [mM]; rfl) | rfl | (simp only [List.length_drop, List.length_take]; rfl)) ?_; (with_reducible refine (impl_bitsOf.calls k (wrap64 ((m9) - 1)) aQ _ A5.out).mono ?_); rintro e w9 ⟨v103, rfl, ho0, hb⟩; refine ⟨_, rfl, ?_⟩; have n_ := zA2 (Kd.R_lower ho0 (below_size zz1)) (below_step zz1 hb); clear HB; obtain ⟨bT, HB⟩ := n_; clear ho0 hb; obtain ⟨Ao10, co10, k9⟩ := Kd.R_slice bT.out; (first | subst k9 | (injection k9 with f1_ f2_ f3_; have f4_ := f1_.symm; have f5_ := f3_.symm; clear f1_ f2_ f3_; subst f4_; subst f5_)); refine hK.out _ _ trivial (fun hHeld => ?_); clear hK K; refine norm_ (a' := ?_) ?_ ?_; rotate_left
 ·show Act.put _ (some 11) _ = _; exact zzS
 refine one_ (i := 10) (N := some 16) (zM 12 2047) rfl rfl (one_of HT_.out (by kernel_rfl)) (by decide) (fun K hK => ?_); refine goes_ Try.func144 (by kernel_rfl) rfl #[.slice A0 l0.length c0, .slice Ao10 aQ.length co10, .int .i64 (wrap64 ((m9) - 1))] (by rfl) rfl rfl (by (try simp only [List.map_toArray, List.map_cons, List.map_nil]); first | done | (simp only [mM]; rfl) | rfl | (simp only [List.length_drop, List.length_take]; rfl)) ?_; (with_reducible refine (impl_determinant.calls k _ _ l0 _ _ aQ (wrap64 ((m9) - 1)) dA _ ?side1 ?side2 ?side3 ?side4 A7.out).mono ?_); (case side1 => exact zz46); (case side2 => exact HC0.out); (case side3 => repeat (first | exact (Kd.R_reads' bT.out).2.2 | (with_reducible refine Kd.C_alloc ?_ _) | (with_reducible refine Kd.C_drewN ?_ _) | (with_reducible refine Kd.C_drew ?_))); (case side4 => exact (Kd.R_reads' bT.out).2.1); rintro e w11 ⟨rfl, hb⟩; refine ⟨_, rfl, ?_⟩; have n_ := zA2 (Kd.R_below zz28 hb) (below_step zz1 hb); clear bT HB; obtain ⟨bT, HB⟩ := n_; clear hb; refine hK.out _ _ trivial (fun hHeld => ?_); clear hK K; refine norm_ (a' := ?_) ?_ ?_; rotate_left
 ·show Act.put _ (some 16) _ = _; exact zzS
 refine zQ 11 2 (zM 12 4095) ?_
 refine done_ (done_of HT_.out (by kernel_rfl)) ?_; (try go_wp2); go_ret; exact ⟨by first | rfl | (simp [errW_none, errW_some] <;> rfl) | (simp only [← mM]; first | rfl | (simp [errW_none, errW_some] <;> rfl)) | (simp [*, errW_none, errW_some] <;> rfl), zz1⟩
mutual
def impl_Multiplicity.j0 : Nat → Int → Int → Bool → Int → List (S57) → Option (Int)
 | 0, _, _, _, _, _ => none
 | k + 1, x1, x2, mF, aJ, aI => if mF = true then (some 0) else (impl_Multiplicity.l0 k x1 x2 0 aI (aI.length : Int) 0)
def impl_Multiplicity.l0 : Nat → Int → Int → Int → List (S57) → Int → Int → Option (Int)
 | 0, _, _, _, _, _, _ => none
 | k + 1, x1, x2, x7, nA, wJ, rY => if rY < wJ then (if 0 ≤ rY then (if rY < (nA.length : Int) then (if ((rd_T57 nA rY).f0) = (mn x1 x2) then (if ((rd_T57 nA rY).f1) = (mx x1 x2) then (impl_Multiplicity.l0 k x1 x2 (wrap64 (x7 + 1)) nA wJ (wrap64 (rY + 1))) else (impl_Multiplicity.l0 k x1 x2 x7 nA wJ (wrap64 (rY + 1)))) else (impl_Multiplicity.l0 k x1 x2 x7 nA wJ (wrap64 (rY + 1)))) else (none)) else (none)) else (some x7)
end
def impl_Multiplicity.f (k : Nat) (aD : Int) (aC : List (S57)) (a1 : Int) (a2 : Int) : Option (Int) := if (mn a1 a2) < 0 then (impl_Multiplicity.j0 k a1 a2 true aD aC) else (if (mx a1 a2) ≥ aD then (impl_Multiplicity.j0 k a1 a2 true aD aC) else (impl_Multiplicity.j0 k a1 a2 (a1 == a2) aD aC))
theorem impl_Multiplicity.mono_l : ∀ k, (∀ y0 y1 y2 y3 y4, LeO (impl_Multiplicity.j0 k y0 y1 y2 y3 y4) (impl_Multiplicity.j0 (k + 1) y0 y1 y2 y3 y4)) ∧ (∀ y0 y1 y2 y3 y4 y5, LeO (impl_Multiplicity.l0 k y0 y1 y2 y3 y4 y5) (impl_Multiplicity.l0 (k + 1) y0 y1 y2 y3 y4 y5))
 | 0 => ⟨fun _ _ _ _ _ r h => by simp [impl_Multiplicity.j0] at h, fun _ _ _ _ _ _ r h => by simp [impl_Multiplicity.l0] at h⟩
 | k + 1 => by
  obtain ⟨ih0, ih1⟩ := impl_Multiplicity.mono_l k
  refine ⟨?_, ?_⟩
  ·intro y0 y1 y2 y3 y4
   unfold impl_Multiplicity.j0
   exact zm1
  ·intro y0 y1 y2 y3 y4 y5
   unfold impl_Multiplicity.l0
   exact zm1
theorem impl_Multiplicity.mono : ∀ a0 a1 a2 a3 k, LeO (impl_Multiplicity.f k a0 a1 a2 a3) (impl_Multiplicity.f (k + 1) a0 a1 a2 a3) := by
 intro a0 a1 a2 a3 k; obtain ⟨ih0, ih1⟩ := impl_Multiplicity.mono_l k; unfold impl_Multiplicity.f; exact zm1
theorem impl_Multiplicity.calls (k : Nat) (aD : Int) (aH : Option Addr) (aG : Nat) (aC : List (S57)) (a1 : Int) (a2 : Int) (r : Int) (w : World) (hr0_1 : Kd.C k57 w aH aC.length aC) (hc0_1 : aC.length ≤ aG) (h : impl_Multiplicity.f k aD aC a1 a2 = some r) :
  Calls Try.prog 123 #[.agg #[.int .i64 aD, .slice aH aC.length aG], .int .i64 a1, .int .i64 a2] w fun e w' => e = .returned (.int .i64 r) ∧ Below w.heap.size w w' := by
 have hu25 := Try.underlying25; have hu57 := Try.underlying57; have bJ := zK_ hr0_1; have bE := zK_ hc0_1; clear hr0_1 hc0_1; have HB := zK_ (Below.refl w.heap.size w); have H : (if (mn a1 a2) < 0 then (impl_Multiplicity.j0 k a1 a2 true aD aC) else (if (mx a1 a2) ≥ aD then (impl_Multiplicity.j0 k a1 a2 true aD aC) else (impl_Multiplicity.j0 k a1 a2 (a1 == a2) aD aC))) = some r := h; clear h; have HC4 := zK_ H; clear H; go_enter Try.func123, Try.ntmps123; (go_upto_region 1 with (first | ((with_reducible refine gate_dst (N := 3) rfl ?_); (try (refine gate_guard (by rfl) ?_; dsimp only)); refine box_event ?hg (N := 3) ?hd (cs := #[.int .i64 aD, .slice aH aC.length aG]) (t := 25) ?hr ?_; (case hd => rfl); (case hg => rfl); (case hr => exact zz9); intro aE hg w5 hbox hb; have n_ := zA4 (below_step zz1 hb) hbox (zz10 : w.heap.size ≤ aE) (zz10 : w.heap.size ≤ aE); clear HB; obtain ⟨HB, aA, GW101, GE101⟩ := n_; clear hb hbox hg))); (try simp only [Act.put, List.setIfInBounds_toArray, List.set_cons_zero, List.set_cons_succ]); go_cut [26] (fun v26 wc => ∃ (kq : Nat) (nM : Bool), v26 = .bool nM ∧ Aside0 (impl_Multiplicity.j0 kq a1 a2 nM aD aC = some r) ∧ Aside0 (kq ≤ k) ∧ Aside0 (wc.heap[aE]? = some (.cells #[.int .i64 aD, (.slice aH aC.length aG)] 25 (0, 0))) ∧ Aside0 (Below w.heap.size w wc))
 case first =>
  have H := HC4.out; clear HC4; obtain ⟨j7, iV⟩ : ∃ j_ : Int, (mn a1 a2) = j_ := ⟨_, rfl⟩; (replace H : (if (j7) < 0 then (impl_Multiplicity.j0 k a1 a2 true aD aC) else (if (mx a1 a2) ≥ aD then (impl_Multiplicity.j0 k a1 a2 true aD aC) else (impl_Multiplicity.j0 k a1 a2 (a1 == a2) aD aC))) = some r := by first | (rw [iV] at H; exact H) | (simp only [iV] at H ⊢; exact H)); have C2 : (if a2 < a1 then a2 else a1) = j7 := iV; by_cases c7 : (j7) < 0
  ·rw [if_pos c7] at H; have d4 := decide_eq_true c7; clear c7; (first | rw [d4] | (simp only [i64_w, i32_w]; rw [d4]) | skip); have H' := zK_ H; clear H; go_wp2; (go_meet); case rel => exact ⟨_, (true), zz5, H', ⟨by first | omega | exact Nat.le_refl _⟩, ⟨zz2⟩, ⟨zz0⟩⟩
  rw [if_neg c7] at H; have d4 := decide_eq_false c7; clear c7; (first | rw [d4] | (simp only [i64_w, i32_w]; rw [d4]) | skip); obtain ⟨nU, mL⟩ : ∃ j_ : Int, (mx a1 a2) = j_ := ⟨_, rfl⟩; (replace H : (if (nU) ≥ aD then (impl_Multiplicity.j0 k a1 a2 true aD aC) else (impl_Multiplicity.j0 k a1 a2 (a1 == a2) aD aC)) = some r := by first | (rw [mL] at H; exact H) | (simp only [mL] at H ⊢; exact H)); have uE : (if a1 < a2 then a2 else a1) = nU := mL; by_cases c9 : (nU) ≥ aD
  ·rw [if_pos c9] at H; have fN : decide (aD ≤ (nU)) = true := decide_eq_true c9; clear c9; have H' := zK_ H; clear H; have cH := zC20 aA; have cG := zC21 aA; have cE := blk_frozen aA.out 0; have cC := blk_frozen aA.out 1; go_wp2; (go_meet); case rel => exact ⟨_, (true), zz5, H', ⟨by first | omega | exact Nat.le_refl _⟩, ⟨zz2⟩, ⟨zz0⟩⟩
  rw [if_neg c9] at H; have fN : decide (aD ≤ (nU)) = false := decide_eq_false c9; clear c9; have H' := zK_ H; clear H; have jB := zC20 aA; have jA := zC21 aA; have i7 := blk_frozen aA.out 0; have i6 := blk_frozen aA.out 1; go_wp2; (go_meet); case rel => exact ⟨_, ((a1 == a2)), zz5, H', ⟨by first | omega | exact Nat.le_refl _⟩, ⟨zz2⟩, ⟨zz0⟩⟩
 case rest =>
  clear HC4; (try clear c1); (try clear p2); (try clear c7); (try clear d4); (try clear c9); (try clear fN); (try clear cH); (try clear cG); (try clear jB); (try clear jA); (try clear cE); (try clear cC); (try clear i7); (try clear i6); obtain ⟨kq, nM, rfl, HA, HJ3, aA, HB⟩ := hcut
  cases kq with
  | zero => exact absurd HA.out (by simp [impl_Multiplicity.j0])
  | succ kj3 =>
   have H := HA.out; clear HA; simp only [impl_Multiplicity.j0] at H; by_cases c12 : nM = true
   ·subst c12; rw [if_pos rfl] at H; obtain rfl := Option.some.inj H; go_wp2; go_ret; exact ⟨zz7, zz0⟩
   replace c12 := Bool.eq_false_iff.mpr c12; subst c12; rw [if_neg (show ¬ (false = true) by decide)] at H; have H' := zK_ H; clear H; have l9 := zC20 aA; have l8 := zC21 aA; have l3 := blk_frozen aA.out 0; have lZ := blk_frozen aA.out 1; go_wp2; (go_loopg [7, 30] kj3 (fun kq v7 v30 w' => ∃ (gG : Int) (cW : Int), v7 = .int .i64 gG ∧ v30 = .int .i64 cW ∧ Aside0 (impl_Multiplicity.l0 kq a1 a2 gG aC (aC.length : Int) cW = some r) ∧ Aside0 (kq ≤ kj3) ∧ Aside0 (w'.heap[aE]? = some (.cells #[.int .i64 aD, (.slice aH aC.length aG)] 25 (0, 0))) ∧ Aside0 (Below w.heap.size w w'))); case atStart => exact ⟨(0), (0), zz5, zz5, H', ⟨Nat.le_refl _⟩, ⟨zz2⟩, ⟨zz0⟩⟩
   case round =>
    clear H'; (try clear c1); (try clear p2); (try clear c7); (try clear d4); (try clear c9); (try clear fN); (try clear c12); (try clear cH); (try clear cG); (try clear jB); (try clear jA); (try clear l9); (try clear l8); (try clear cE); (try clear cC); (try clear i7); (try clear i6); (try clear l3); (try clear lZ); (try clear p2); obtain ⟨gG, cW, rfl, rfl, HA, HK2, aA, HB⟩ := hrel
    cases gk with
    | zero => exact absurd HA.out (by simp [impl_Multiplicity.l0])
    | succ k2 =>
     have H := HA.out; clear HA; simp only [impl_Multiplicity.l0] at H; by_cases c14 : cW < (aC.length : Int); rotate_left
     ·rw [if_neg c14] at H; have f9 := decide_eq_false c14; clear c14; obtain rfl := Option.some.inj H; go_wp2; go_ret; exact ⟨zz7, zz0⟩
     rw [if_pos c14] at H; have f9 := decide_eq_true c14; clear c14; by_cases c15 : 0 ≤ cW; rotate_left
     ·rw [if_neg c15] at H; exact absurd H (by simp)
     rw [if_pos c15] at H; have iY := decide_eq_true c15; clear c15; by_cases c16 : cW < (aC.length : Int); rotate_left
     ·rw [if_neg c16] at H; exact absurd H (by simp)
     rw [if_pos c16] at H; have iX := decide_eq_true c16; clear c16; obtain ⟨dH, fK⟩ : ∃ j_ : Int, (mn a1 a2) = j_ := ⟨_, rfl⟩; (replace H : (if ((rd_T57 aC cW).f0) = (dH) then (if ((rd_T57 aC cW).f1) = (mx a1 a2) then (impl_Multiplicity.l0 k2 a1 a2 (wrap64 (gG + 1)) aC (aC.length : Int) (wrap64 (cW + 1))) else (impl_Multiplicity.l0 k2 a1 a2 gG aC (aC.length : Int) (wrap64 (cW + 1)))) else (impl_Multiplicity.l0 k2 a1 a2 gG aC (aC.length : Int) (wrap64 (cW + 1)))) = some r := by first | (rw [fK] at H; exact H) | (simp only [fK] at H ⊢; exact H)); have lU : (if a2 < a1 then a2 else a1) = dH := fK; by_cases c18 : ((rd_T57 aC cW).f0) = (dH); rotate_left
     ·rw [if_neg c18] at H; have iW : (((rd_T57 aC cW).f0) == (dH)) = false := beq_eq_false_iff_ne.mpr c18; have oZ : (((rd_T57 aC cW).f0) != (dH)) = true := bne_iff_ne.mpr c18; have H' := zK_ H; clear H; have p102 : 0 ≤ (cW : Int) := of_decide_eq_true zz4; have q102 : cW < (aC.length : Int) := of_decide_eq_true zz4; obtain ⟨dB, e102, bA, bO⟩ := at_T57 bJ.out cW p102 q102; cases e102; replace bA := (HB.out.cell (World.block_lt_of_cell? w _ bA)).trans bA; replace bO := (HB.out.cell (World.block_lt_of_cell? w _ bO)).trans bO; replace p102 := eq_true p102; replace q102 := eq_true q102; (go_wp2_with (first | ((with_reducible refine gate_dst (N := 9) rfl ?_); (try (refine gate_guard (by rfl) ?_; dsimp only)); refine box_event ?hg (N := 9) ?hd (cs := #[.int .i64 0, .int .i64 0]) (t := 57) ?hr ?_; (case hd => rfl); (case hg => rfl); (case hr => exact zz9); intro b8 hg w27 hbox hb; have n_ := zA7 (blk_below (g := aE) (o := .cells #[.int .i64 aD, .slice (some dB) aC.length aG] 25 (0, 0)) zz2 hb) (below_step zz0 hb) hbox (zz13 : w.heap.size ≤ b8) (zz13 : w.heap.size ≤ b8) (zz37 : aE ≠ b8) (zz38 : b8 ≠ aE); clear aA HB; obtain ⟨aA, HB, b3, GW103, GE103, cI, cU⟩ := n_; clear hb hbox hg; have CT := cU.out; have B0 := cI.out; have oP := zC20 b3; have oO := zC21 b3; have oA := blk_frozen b3.out 0; have n9 := blk_frozen b3.out 1))); go_roundg k2; (case measure => have := HJ3.out; have := HK2.out; omega); case rel => exact ⟨(gG), (wrap64 (cW + 1)), zz5, zz5, H', ⟨by have := HJ3.out; have := HK2.out; omega⟩, ⟨zz14⟩, ⟨zz26⟩⟩
     rw [if_pos c18] at H; have iW : (((rd_T57 aC cW).f0) == (dH)) = true := beq_iff_eq.mpr c18; have oZ : (((rd_T57 aC cW).f0) != (dH)) = false := bne_eq_false_iff_eq.mpr c18; clear c18; obtain ⟨nG, qA⟩ : ∃ j_ : Int, (mx a1 a2) = j_ := ⟨_, rfl⟩; (replace H : (if ((rd_T57 aC cW).f1) = (nG) then (impl_Multiplicity.l0 k2 a1 a2 (wrap64 (gG + 1)) aC (aC.length : Int) (wrap64 (cW + 1))) else (impl_Multiplicity.l0 k2 a1 a2 gG aC (aC.length : Int) (wrap64 (cW + 1)))) = some r := by first | (rw [qA] at H; exact H) | (simp only [qA] at H ⊢; exact H)); have zA : (if a1 < a2 then a2 else a1) = nG := qA; by_cases c20 : ((rd_T57 aC cW).f1) = (nG); rotate_left
     ·rw [if_neg c20] at H; have sB : (((rd_T57 aC cW).f1) == (nG)) = false := beq_eq_false_iff_ne.mpr c20; have vI : (((rd_T57 aC cW).f1) != (nG)) = true := bne_iff_ne.mpr c20; have H' := zK_ H; clear H; have p102 : 0 ≤ (cW : Int) := of_decide_eq_true zz4; have q102 : cW < (aC.length : Int) := of_decide_eq_true zz4; obtain ⟨dB, e102, bA, bO⟩ := at_T57 bJ.out cW p102 q102; cases e102; replace bA := (HB.out.cell (World.block_lt_of_cell? w _ bA)).trans bA; replace bO := (HB.out.cell (World.block_lt_of_cell? w _ bO)).trans bO; replace p102 := eq_true p102; replace q102 := eq_true q102; (go_wp2_with (first | ((with_reducible refine gate_dst (N := 9) rfl ?_); (try (refine gate_guard (by rfl) ?_; dsimp only)); refine box_event ?hg (N := 9) ?hd (cs := #[.int .i64 0, .int .i64 0]) (t := 57) ?hr ?_; (case hd => rfl); (case hg => rfl); (case hr => exact zz9); intro b8 hg w24 hbox hb; have n_ := zA7 (blk_below (g := aE) (o := .cells #[.int .i64 aD, .slice (some dB) aC.length aG] 25 (0, 0)) zz2 hb) (below_step zz0 hb) hbox (zz13 : w.heap.size ≤ b8) (zz13 : w.heap.size ≤ b8) (zz37 : aE ≠ b8) (zz38 : b8 ≠ aE); clear aA HB; obtain ⟨aA, HB, b3, GW103, GE103, cI, cU⟩ := n_; clear hb hbox hg; have CW := cU.out; have B7 := cI.out; have jT := zC20 b3; have jS := zC21 b3; have jN := blk_frozen b3.out 0; have jM := blk_frozen b3.out 1))); go_roundg k2; (case measure => have := HJ3.out; have := HK2.out; omega); case rel => exact ⟨(gG), (wrap64 (cW + 1)), zz5, zz5, H', ⟨by have := HJ3.out; have := HK2.out; omega⟩, ⟨zz14⟩, ⟨zz26⟩⟩
     rw [if_pos c20] at H; have sB : (((rd_T57 aC cW).f1) == (nG)) = true := beq_iff_eq.mpr c20; have vI : (((rd_T57 aC cW).f1) != (nG)) = false := bne_eq_false_iff_eq.mpr c20; clear c20; have H' := zK_ H; clear H; have p102 : 0 ≤ (cW : Int) := of_decide_eq_true zz4; have q102 : cW < (aC.length : Int) := of_decide_eq_true zz4; obtain ⟨dB, e102, bA, bO⟩ := at_T57 bJ.out cW p102 q102; cases e102; replace bA := (HB.out.cell (World.block_lt_of_cell? w _ bA)).trans bA; replace bO := (HB.out.cell (World.block_lt_of_cell? w _ bO)).trans bO; replace p102 := eq_true p102; replace q102 := eq_true q102; (go_wp2_with (first | ((with_reducible refine gate_dst (N := 9) rfl ?_); (try (refine gate_guard (by rfl) ?_; dsimp only)); refine box_event ?hg (N := 9) ?hd (cs := #[.int .i64 0, .int .i64 0]) (t := 57) ?hr ?_; (case hd => rfl); (case hg => rfl); (case hr => exact zz9); intro b8 hg w21 hbox hb; have n_ := zA7 (blk_below (g := aE) (o := .cells #[.int .i64 aD, .slice (some dB) aC.length aG] 25 (0, 0)) zz2 hb) (below_step zz0 hb) hbox (zz13 : w.heap.size ≤ b8) (zz13 : w.heap.size ≤ b8) (zz37 : aE ≠ b8) (zz38 : b8 ≠ aE); clear aA HB; obtain ⟨aA, HB, b3, GW103, GE103, cI, cU⟩ := n_; clear hb hbox hg; have r5 := cU.out; have rZ := cI.out; have kQ := zC20 b3; have kP := zC21 b3; have kK := blk_frozen b3.out 0; have kJ := blk_frozen b3.out 1))); go_roundg k2; (case measure => have := HJ3.out; have := HK2.out; omega); case rel => exact ⟨(wrap64 (gG + 1)), (wrap64 (cW + 1)), zz5, zz5, H', ⟨by have := HJ3.out; have := HK2.out; omega⟩, ⟨zz14⟩, ⟨zz26⟩⟩
end Go.Proofs.Ytnbljcgdgblgoaa.P
end

section
namespace Go.Proofs.Ytnbljcgdgblgoaa.P
open Go.RowKit Go.Proofs.YtnbljcgdgblgoaaW.PrintWords Go.Proofs.YtnbljcgdgblgoaaW.PrintLast Go.Proofs.YtnbljcgdgblgoaaW.PrintMore
attribute [local go_sem] max2_int min2_int max_two min_two max_three min_three max_four min_four
set_option linter.unusedVariables false
set_option linter.unusedSimpArgs false
mutual
def impl_LaplacianOf.l0 : Nat → List (List Int) → Int → Int → List (S57) → Option ((List (List Int)))
 | 0, _, _, _, _ => none
 | k + 1, x3, x4, aJ, aI => if x4 < aJ then (if 0 ≤ aJ then (if (aJ : Int).toNat ≤ 35184372088832 then ((some (List.replicate (aJ : Int).toNat 0 : List Int)).bind fun fM => (impl_LaplacianOf.l1 k x3 x4 fM (fM.length : Int) 0 aJ aI)) else (none)) else (none)) else (some x3)
def impl_LaplacianOf.l1 : Nat → List (List Int) → Int → List Int → Int → Int → Int → List (S57) → Option ((List (List Int)))
 | 0, _, _, _, _, _, _, _ => none
 | k + 1, x3, x4, x5, sJ, k8, aJ, aI => if k8 < sJ then ((impl_Multiplicity.f k aJ aI x4 k8).bind fun cK => (if 0 ≤ k8 then (if k8 < (x5.length : Int) then (impl_LaplacianOf.l1 k x3 x4 (x5.set (k8 : Int).toNat (wrap64 (-cK))) sJ (wrap64 (k8 + 1)) aJ aI) else (none)) else (none))) else ((impl_Valence.f k aJ aI x4).bind fun f4 => (if 0 ≤ x4 then (if x4 < (x5.length : Int) then (if x3.length < 5864062014805 then (impl_LaplacianOf.l0 k (x3 ++ [(x5.set (x4 : Int).toNat f4)]) (wrap64 (x4 + 1)) aJ aI) else (none)) else (none)) else (none)))
end
def impl_LaplacianOf.f (k : Nat) (aD : Int) (aC : List (S57)) : Option ((List (List Int))) := (impl_GraphOk.f aD aC).bind fun aQ => (if aQ = true then (impl_LaplacianOf.l0 k ([] : List (List Int)) 0 aD aC) else (some ([] : List (List Int))))
theorem impl_LaplacianOf.mono_l : ∀ k, (∀ y0 y1 y2 y3, LeO (impl_LaplacianOf.l0 k y0 y1 y2 y3) (impl_LaplacianOf.l0 (k + 1) y0 y1 y2 y3)) ∧ (∀ y0 y1 y2 y3 y4 y5 y6, LeO (impl_LaplacianOf.l1 k y0 y1 y2 y3 y4 y5 y6) (impl_LaplacianOf.l1 (k + 1) y0 y1 y2 y3 y4 y5 y6))
 | 0 => ⟨fun _ _ _ _ r h => by simp [impl_LaplacianOf.l0] at h, fun _ _ _ _ _ _ _ r h => by simp [impl_LaplacianOf.l1] at h⟩
 | k + 1 => by
  obtain ⟨ih0, ih1⟩ := impl_LaplacianOf.mono_l k
  refine ⟨?_, ?_⟩
  ·intro y0 y1 y2 y3
   unfold impl_LaplacianOf.l0
   exact zm9
  ·intro y0 y1 y2 y3 y4 y5 y6
   unfold impl_LaplacianOf.l1
   exact zm9
theorem impl_LaplacianOf.mono : ∀ a0 a1 k, LeO (impl_LaplacianOf.f k a0 a1) (impl_LaplacianOf.f (k + 1) a0 a1) := by
 intro a0 a1 k; obtain ⟨ih0, ih1⟩ := impl_LaplacianOf.mono_l k; unfold impl_LaplacianOf.f; exact zm9
theorem impl_LaplacianOf.calls (k : Nat) (aD : Int) (aH : Option Addr) (aG : Nat) (aC : List (S57)) (r : List (List Int)) (w : World) (hr0_1 : Kd.C k57 w aH aC.length aC) (hc0_1 : aC.length ≤ aG) (h : impl_LaplacianOf.f k aD aC = some r) :
  Calls Try.prog 146 #[.agg #[.int .i64 aD, .slice aH aC.length aG]] w fun e w' => ∃ v0_ : Value, e = .returned (v0_) ∧ Kd.S (Kd.slice 3 (Kd.int .i64)) 26 w' w.heap.size (fun _ => True) v0_ r ∧ Below w.heap.size w w' := by
 have hu25 := Try.underlying25; have bJ := zK_ hr0_1; have bE := zK_ hc0_1; clear hr0_1 hc0_1; have HB := zK_ (Below.refl w.heap.size w); have H : ((impl_GraphOk.f aD aC).bind fun aQ => (if aQ = true then (impl_LaplacianOf.l0 k ([] : List (List Int)) 0 aD aC) else (some ([] : List (List Int))))) = some r := h; clear h; obtain ⟨aQ, A20, H⟩ := zO_ H; (try dsimp only at H); have A2 := zK_ A20; clear A20; by_cases c3 : aQ = true; rotate_left
 ·replace c3 := Bool.eq_false_iff.mpr c3; subst c3; rw [if_neg (show ¬ (false = true) by decide)] at H; obtain rfl := Option.some.inj H; go_enter Try.func146, Try.ntmps146; (go_wp2_with (first | ((with_reducible refine gate_dst (N := 1) rfl ?_); refine box_event ?hg (N := 1) ?hd (cs := #[.int .i64 aD, .slice aH aC.length aG]) (t := 25) ?hr ?_; (case hd => rfl); (case hg => rfl); (case hr => exact zz9); intro aE hg w34 hbox hb; have n_ := zA4 (below_step zz1 hb) hbox (zz10 : w.heap.size ≤ aE) (zz10 : w.heap.size ≤ aE); clear HB; obtain ⟨HB, aA, GW101, GE101⟩ := n_; clear hb hbox hg; have jR := zC20 aA; have jQ := zC21 aA; have jL := blk_frozen aA.out 0; have jK := blk_frozen aA.out 1) | ((with_reducible refine gate_callee (f := 50) rfl ?_); refine goesL_ (some 8) rfl rfl Try.func50 (by kernel_rfl) rfl #[.agg #[.int .i64 aD, .slice aH aC.length aG]] rfl zz3 ?_; (with_reducible refine (impl_GraphOk.calls aD _ _ aC false _ ?side1 ?side2 A2.out).mono ?_); (case side1 => exact zz6); (case side2 => exact bE.out); rintro e w36 ⟨rfl, hb⟩; refine ⟨_, rfl, ?_⟩; have n_ := zA2 (blk_below (g := aE) (o := .cells #[.int .i64 aD, .slice aH aC.length aG] 25 (0, 0)) zz2 hb) (below_step zz0 hb); clear aA HB; obtain ⟨aA, HB⟩ := n_; clear hb))); go_ret; exact ⟨_, zz7, by first | exact Kd.S_nil _ _ _ _ _ | exact Kd.N_nil _ _ _ _ _ | exact Kd.V_nil _ _ _ _ _ | exact Kd.Q_nil _ _ _ _ _ | exact Kd.R_nil _ _ _ _ _, zz0⟩
 subst c3; rw [if_pos rfl] at H; have H' := zK_ H; clear H; go_enter Try.func146, Try.ntmps146; (go_wp2_with (first | ((with_reducible refine gate_dst (N := 1) rfl ?_); refine box_event ?hg (N := 1) ?hd (cs := #[.int .i64 aD, .slice aH aC.length aG]) (t := 25) ?hr ?_; (case hd => rfl); (case hg => rfl); (case hr => exact zz9); intro aE hg w4 hbox hb; have n_ := zA4 (below_step zz1 hb) hbox (zz10 : w.heap.size ≤ aE) (zz10 : w.heap.size ≤ aE); clear HB; obtain ⟨HB, aA, GW101, GE101⟩ := n_; clear hb hbox hg; have hU := zC20 aA; have g9 := zC21 aA; have g8 := blk_frozen aA.out 0; have g7 := blk_frozen aA.out 1) | ((with_reducible refine gate_callee (f := 50) rfl ?_); refine goesL_ (some 8) rfl rfl Try.func50 (by kernel_rfl) rfl #[.agg #[.int .i64 aD, .slice aH aC.length aG]] rfl zz3 ?_; (with_reducible refine (impl_GraphOk.calls aD _ _ aC true _ ?side1 ?side2 A2.out).mono ?_); (case side1 => exact zz6); (case side2 => exact bE.out); rintro e w6 ⟨rfl, hb⟩; refine ⟨_, rfl, ?_⟩; have n_ := zA2 (blk_below (g := aE) (o := .cells #[.int .i64 aD, .slice aH aC.length aG] 25 (0, 0)) zz2 hb) (below_step zz0 hb); clear aA HB; obtain ⟨aA, HB⟩ := n_; clear hb))); (go_loopg [3, 4] k (fun kq v3 v4 w' => ∃ (bP : List (List Int)) (aX : Int), v4 = .int .i64 aX ∧ Aside0 (impl_LaplacianOf.l0 kq bP aX aD aC = some r) ∧ Aside0 (kq ≤ k) ∧ Aside0 (Kd.S (Kd.slice 3 (Kd.int .i64)) 26 w' w.heap.size (fun _ => True) v3 bP) ∧ Aside0 (w'.heap[aE]? = some (.cells #[.int .i64 aD, (.slice aH aC.length aG)] 25 (0, 0))) ∧ Aside0 (Below w.heap.size w w'))); case atStart => exact ⟨(([] : List (List Int))), (0), zz5, H', ⟨Nat.le_refl _⟩, ⟨by first | exact Kd.S_nil _ _ _ _ _ | exact Kd.N_nil _ _ _ _ _ | exact Kd.V_nil _ _ _ _ _ | exact Kd.Q_nil _ _ _ _ _ | exact Kd.R_nil _ _ _ _ _⟩, ⟨zz2⟩, ⟨zz0⟩⟩
 case round =>
  clear H'; (try clear c1); (try clear p2); (try clear c3); (try clear c5); (try clear hU); (try clear g9); (try clear g8); (try clear g7); obtain ⟨bP, aX, rfl, HA, HK1, bC, aA, HB⟩ := hrel
  cases gk with
  | zero => exact absurd HA.out (by simp [impl_LaplacianOf.l0])
  | succ k1 =>
   have H := HA.out; clear HA; simp only [impl_LaplacianOf.l0] at H; by_cases c7 : aX < aD; rotate_left
   ·rw [if_neg c7] at H; have d4 := decide_eq_false c7; clear c7; obtain rfl := Option.some.inj H; have rQ := zC20 aA; have rP := zC21 aA; have rI := blk_frozen aA.out 0; have rH := blk_frozen aA.out 1; go_wp2; go_ret; exact ⟨_, zz7, by (with_reducible repeat (first | apply Kd.S_alloc | apply Kd.S_drewN | apply Kd.S_drew)); exact bC.out, zz0⟩
   rw [if_pos c7] at H; have d4 := decide_eq_true c7; clear c7; by_cases c8 : 0 ≤ aD; rotate_left
   ·rw [if_neg c8] at H; exact absurd H (by simp)
   rw [if_pos c8] at H; have fL := eq_true c8; have pD : decide (0 ≤ aD) = true := decide_eq_true c8; clear c8; by_cases c9 : (aD : Int).toNat ≤ 35184372088832; rotate_left
   ·rw [if_neg c9] at H; exact absurd H (by simp)
   rw [if_pos c9] at H; have fN := eq_true c9; have qM : decide ((aD : Int).toNat ≤ 35184372088832) = true := decide_eq_true c9; clear c9; obtain ⟨fM, hy_⟩ : ∃ y_ : List Int, y_ = (List.replicate (aD : Int).toNat 0) := ⟨_, rfl⟩; (replace H : (impl_LaplacianOf.l1 k1 bP aX fM (fM.length : Int) 0 aD aC) = some r := zzY); have kD := zK_ hy_; clear hy_; have H' := zK_ H; clear H; have cH := zC20 aA; have cG := zC21 aA; have cE := blk_frozen aA.out 0; have cC := blk_frozen aA.out 1; (go_wp2_with (first | ((with_reducible refine gate_dst (N := 18) rfl ?_); refine Kd.R_make (Kd.int .i64) _ 3 rfl (N := 18) rfl 26 _ _ rfl aD rfl rfl Try.underlying26 (.int .i64 0) 8 info3 rfl (by decide) (by omega) 0 (ok := fun _ => True) (okp := fun _ => True) rfl (fun _ hk => hk) trivial (of_decide_eq_true zz4) (Nat.le_trans (Nat.mul_le_mul_right _ (of_decide_eq_true zz4 : aD.toNat ≤ 35184372088832)) (by omega)) (Below.refl _ _) (Nat.le_refl _) ?_; intro v104 w11 ho12 hb hg_ hnew_; clear hg_ hnew_; (first | rw [← kD.out] at ho12 | (simp only [Int.reduceToNat] at ho12; rw [← kD.out] at ho12)); have n_ := zA4 (Kd.S_elder' zz45 (Kd.R_base ho12) hb) (Kd.R_lower ho12 (below_size zz0)) (blk_below (g := aE) (o := .cells #[.int .i64 aD, .slice aH aC.length aG] 25 (0, 0)) zz2 hb) (below_step zz0 hb); clear bC aA HB; obtain ⟨bC, eW, aA, HB⟩ := n_; clear hb ho12; obtain ⟨Ao13, co13, tG⟩ := Kd.R_slice eW.out; subst tG))); (go_loopg [21] k1 (fun kq v21 w' => ∃ (bY : List Int) (fV : Int), v21 = .int .i64 fV ∧ Aside0 (impl_LaplacianOf.l1 kq bP aX bY (fM.length : Int) fV aD aC = some r) ∧ Aside0 (kq ≤ k1) ∧ Aside0 (Kd.S (Kd.slice 3 (Kd.int .i64)) 26 w' w.heap.size (fun k_ => some k_ ≠ ((.slice Ao13 fM.length co13) : Value).ownBlock) u3 bP) ∧ Aside0 (Kd.R (Kd.int .i64) 3 w' w.heap.size (fun _ => True) (.slice Ao13 fM.length co13) bY) ∧ Aside0 (w'.heap[aE]? = some (.cells #[.int .i64 aD, (.slice aH aC.length aG)] 25 (0, 0))) ∧ Aside0 (Below w.heap.size w w'))); case atStart => exact ⟨(fM), (0), zz5, H', ⟨Nat.le_refl _⟩, ⟨zz57⟩, ⟨by (with_reducible repeat (first | apply Kd.R_alloc | apply Kd.R_drewN | apply Kd.R_drew)); exact eW.out⟩, ⟨zz2⟩, ⟨zz0⟩⟩
   case round =>
    clear H'; (try clear c1); (try clear p2); (try clear c3); (try clear c5); (try clear c7); (try clear d4); (try clear c8); (try clear fL); (try clear pD); (try clear c9); (try clear fN); (try clear qM); (try clear cH); (try clear cG); (try clear hU); (try clear g9); (try clear cE); (try clear cC); (try clear g8); (try clear g7); (try clear p2); obtain ⟨bY, fV, rfl, HA, HK2, bC, bV, aA, HB⟩ := hrel; have fJ := (Kd.R_reads' bV.out).1; rw [fJ] at bV; (try simp only [fJ]); (try simp only [fJ] at aA); (try simp only [fJ] at bC)
    cases gk with
    | zero => exact absurd HA.out (by simp [impl_LaplacianOf.l1])
    | succ k2 =>
     have H := HA.out; clear HA; simp only [impl_LaplacianOf.l1] at H; by_cases c14 : fV < (fM.length : Int)
     ·rw [if_pos c14] at H; have f9 := decide_eq_true c14; (try (have iZ := f9; first | rw [fJ] at iZ | rw [← fJ] at iZ)); clear c14; obtain ⟨cK, A150, H⟩ := zO_ H; (try dsimp only at H); have A15 := zK_ A150; clear A150; by_cases c16 : 0 ≤ fV; rotate_left
      ·rw [if_neg c16] at H; exact absurd H (by simp)
      rw [if_pos c16] at H; have iX := decide_eq_true c16; clear c16; by_cases c17 : fV < (bY.length : Int); rotate_left
      ·rw [if_neg c17] at H; exact absurd H (by simp)
      rw [if_pos c17] at H; have gN := decide_eq_true c17; (try (have mZ := gN; first | rw [fJ] at mZ | rw [← fJ] at mZ)); clear c17; obtain ⟨hY, hy_⟩ : ∃ y_ : List Int, y_ = (bY.set (fV : Int).toNat (wrap64 (-cK))) := ⟨_, rfl⟩; (replace H : (impl_LaplacianOf.l1 k2 bP aX hY (fM.length : Int) (wrap64 (fV + 1)) aD aC) = some r := zzY); have iG := zK_ hy_; clear hy_; have H' := zK_ H; clear H; have jV := zC20 aA; have jU := zC21 aA; have jP := blk_frozen aA.out 0; have jO := blk_frozen aA.out 1; (go_wp2_with (first | ((with_reducible refine gate_callee (f := 123) rfl ?_); refine goesL_ (some 29) rfl rfl Try.func123 (by kernel_rfl) rfl #[.agg #[.int .i64 aD, .slice aH aC.length aG], .int .i64 aX, .int .i64 fV] rfl zz3 ?_; (with_reducible refine (impl_Multiplicity.calls k2 aD _ _ aC aX fV cK _ ?side1 ?side2 A15.out).mono ?_); (case side1 => exact zz6); (case side2 => exact bE.out); rintro e w20 ⟨rfl, hb⟩; refine ⟨_, rfl, ?_⟩; have n_ := zA4 (Kd.S_below zz45 hb) (Kd.R_below zz22 hb) (blk_below (g := aE) (o := .cells #[.int .i64 aD, .slice aH aC.length aG] 25 (0, 0)) zz2 hb) (below_step zz0 hb); clear bC bV aA HB; obtain ⟨bC, bV, aA, HB⟩ := n_; clear hb; have p18 : 0 ≤ (fV : Int) := of_decide_eq_true zz4; have q18 : (fV : Int) < ((bY.length : Int) : Int) := of_decide_eq_true zz4; obtain ⟨go18, co18, rV, uM, gl18, cl18, HG18⟩ := Kd.R_form bV.out (by omega); (first | cases rV | (injection rV with ea_ en_ ec_; (first | subst ea_ | (injection ea_ with ea_; subst ea_)); subst ec_; clear en_)); have BH := zK_ uM; have D4 := zK_ HG18; clear uM gl18 HG18; obtain ⟨yI, zZ⟩ := Kd.R_celln 0 bV.out (fV : Int) p18 q18; replace p18 := eq_true p18; replace q18 := eq_true q18; obtain ⟨hy21_, hz21_⟩ := Kd.R_celln 0 bV.out (fV : Int) (of_decide_eq_true zz4) (of_decide_eq_true zz4); have tM := Kd.R_putg bV.out (fV : Int) (wrap64 (-cK))) | ((with_reducible refine gate_store (t := 3) (p := 31) rfl ?_); refine store_event (t := 3) (p := 31) (v := ?vo_w22) (w1 := (w20.setCell ⟨go18, (fV : Int).toNat, none⟩ (.int .i64 (wrap64 (-cK))))) ?hg ?ho ?hn ?hr ?_; (case ho => rfl); (case hg => rfl); (case hn => rfl); (case hr => exact zz9); intro w22 hw; have hg : w20.grownBy w22 (some go18) := (by rw [hw]; exact tM.2); have hp_ : Kd.R (Kd.int .i64) 3 w22 w.heap.size (fun _ => True) (.slice (some ⟨go18, 0, none⟩) bY.length co13) hY := (by rw [hw, iG.out]; exact tM.1); clear tM; have n_ := zA4 (Kd.S_after (v := (.slice (some ⟨go18, 0, none⟩) bY.length co13)) (v1 := (.slice (some ⟨go18, 0, none⟩) bY.length co13)) (ok := (fun _ => True)) zz54 hg (.inl rfl)) hp_ (blk_grown (g := aE) (o := .cells #[.int .i64 aD, .slice aH aC.length aG] 25 (0, 0)) zz2 hg (Kd.R_ne bV.out aA.out (by decide))) (by rw [hw]; exact below_set (HB.out) BH.out : Below w.heap.size w w22); clear bC bV aA HB; obtain ⟨bC, bV, aA, HB⟩ := n_; clear hg hw hp_))); (try simp only [← fJ]); go_roundg k2; (case measure => have := HK1.out; have := HK2.out; omega); case rel => exact ⟨(hY), (wrap64 (fV + 1)), zz5, H', ⟨zz53⟩, ⟨by (try simp only [fJ]); (with_reducible repeat (first | apply Kd.S_alloc | apply Kd.S_drewN | apply Kd.S_drew)); exact Kd.S_mono bC.out (fun _ hk => hk.2)⟩, ⟨by (try simp only [fJ]); (with_reducible repeat (first | apply Kd.R_alloc | apply Kd.R_drewN | apply Kd.R_drew)); exact bV.out⟩, ⟨by (try simp only [fJ]); (with_reducible repeat (first | refine blk_drewN ?_ _ | refine blk_drew ?_ | refine blk_alloc ?_ _)); exact aA.out⟩, ⟨zz0⟩⟩
     rw [if_neg c14] at H; have f9 := decide_eq_false c14; (try (have iZ := f9; first | rw [fJ] at iZ | rw [← fJ] at iZ)); clear c14; obtain ⟨f4, A230, H⟩ := zO_ H; (try dsimp only at H); have A23 := zK_ A230; clear A230; by_cases c24 : 0 ≤ aX; rotate_left
     ·rw [if_neg c24] at H; exact absurd H (by simp)
     rw [if_pos c24] at H; have mV := decide_eq_true c24; clear c24; by_cases c25 : aX < (bY.length : Int); rotate_left
     ·rw [if_neg c25] at H; exact absurd H (by simp)
     rw [if_pos c25] at H; have vH := decide_eq_true c25; (try (have mU := vH; first | rw [fJ] at mU | rw [← fJ] at mU)); clear c25; obtain ⟨bW, hy_⟩ : ∃ y_ : List Int, y_ = (bY.set (aX : Int).toNat f4) := ⟨_, rfl⟩; (replace H : (if bP.length < 5864062014805 then (impl_LaplacianOf.l0 k2 (bP ++ [bW]) (wrap64 (aX + 1)) aD aC) else (none)) = some r := zzY); have f2 := zK_ hy_; clear hy_; by_cases c27 : bP.length < 5864062014805; rotate_left
     ·rw [if_neg c27] at H; exact absurd H (by simp)
     rw [if_pos c27] at H; have vR := zK_ c27; clear c27; obtain ⟨pG, hy_⟩ : ∃ y_ : List (List Int), y_ = (bP ++ [bW]) := ⟨_, rfl⟩; (replace H : (impl_LaplacianOf.l0 k2 pG (wrap64 (aX + 1)) aD aC) = some r := zzY); have qV := zK_ hy_; clear hy_; have H' := zK_ H; clear H; have oR := zC20 aA; have oQ := zC21 aA; have oC := blk_frozen aA.out 0; have oB := blk_frozen aA.out 1; (go_wp2_with (first | ((with_reducible refine gate_callee (f := 75) rfl ?_); refine goesL_ (some 37) rfl rfl Try.func75 (by kernel_rfl) rfl #[.agg #[.int .i64 aD, .slice aH aC.length aG], .int .i64 aX] rfl zz3 ?_; (with_reducible refine (impl_Valence.calls k2 aD _ _ aC aX f4 _ ?side1 ?side2 A23.out).mono ?_); (case side1 => exact zz6); (case side2 => exact bE.out); rintro e w29 ⟨rfl, hb⟩; refine ⟨_, rfl, ?_⟩; have n_ := zA4 (Kd.S_below zz45 hb) (Kd.R_below zz22 hb) (blk_below (g := aE) (o := .cells #[.int .i64 aD, .slice aH aC.length aG] 25 (0, 0)) zz2 hb) (below_step zz0 hb); clear bC bV aA HB; obtain ⟨bC, bV, aA, HB⟩ := n_; clear hb; have p26 : 0 ≤ (aX : Int) := of_decide_eq_true zz4; have q26 : (aX : Int) < ((bY.length : Int) : Int) := of_decide_eq_true zz4; obtain ⟨go26, co26, uP, uK, gl26, cl26, HG26⟩ := Kd.R_form bV.out (by omega); (first | cases uP | (injection uP with ea_ en_ ec_; (first | subst ea_ | (injection ea_ with ea_; subst ea_)); subst ec_; clear en_)); have BF := zK_ uK; have D2 := zK_ HG26; clear uK gl26 HG26; obtain ⟨yG, zX⟩ := Kd.R_celln 0 bV.out (aX : Int) p26 q26; replace p26 := eq_true p26; replace q26 := eq_true q26; obtain ⟨hy30_, hz30_⟩ := Kd.R_celln 0 bV.out (aX : Int) (of_decide_eq_true zz4) (of_decide_eq_true zz4); have tK := Kd.R_putg bV.out (aX : Int) f4) | ((with_reducible refine gate_store (t := 3) (p := 38) rfl ?_); refine store_event (t := 3) (p := 38) (v := ?vo_w31) (w1 := (w29.setCell ⟨go26, (aX : Int).toNat, none⟩ (.int .i64 f4))) ?hg ?ho ?hn ?hr ?_; (case ho => rfl); (case hg => rfl); (case hn => rfl); (case hr => exact zz9); intro w31 hw; have hg : w29.grownBy w31 (some go26) := (by rw [hw]; exact tK.2); have hp_ : Kd.R (Kd.int .i64) 3 w31 w.heap.size (fun _ => True) (.slice (some ⟨go26, 0, none⟩) bY.length co13) bW := (by rw [hw, f2.out]; exact tK.1); clear tK; have n_ := zA4 (Kd.S_after (v := (.slice (some ⟨go26, 0, none⟩) bY.length co13)) (v1 := (.slice (some ⟨go26, 0, none⟩) bY.length co13)) (ok := (fun _ => True)) zz54 hg (.inl rfl)) hp_ (blk_grown (g := aE) (o := .cells #[.int .i64 aD, .slice aH aC.length aG] 25 (0, 0)) zz2 hg (Kd.R_ne bV.out aA.out (by decide))) (by rw [hw]; exact below_set (HB.out) BF.out : Below w.heap.size w w31); clear bC bV aA HB; obtain ⟨bC, bV, aA, HB⟩ := n_; clear hg hw hp_) | ((with_reducible refine gate_builtin (b := .append) (xs := #[.tmp 39, .tmp 41]) rfl ?_); at_builtin; refine Kd.S_append (Kd.slice 3 (Kd.int .i64)) (w0 := w) w.heap.size rfl (.tmp 39) (.tmp 41) 34 26 (.slice none 0 0) 24 rfl Try.underlying34 info26 rfl (by decide) (by omega) u3 bP bW [.slice (some ⟨go26, 0, none⟩) bY.length co13] (fun _ => True) (fun k_ => some k_ = (.slice (some ⟨go26, 0, none⟩) bY.length co13 : Value).ownBlock) rfl rfl ?aP (fun k_ hk_ => ((Kd.R_mono (ok' := fun k_ => ((fun _ => True)) k_ ∧ some k_ ≠ (u3 : Value).ownBlock) (Kd.R_apart' (bV.out) (Kd.S_typed bC.out) (by decide)) (fun k_ hk => ⟨trivial, hk.2⟩))).1 k_ hk_.symm) ?aF ?aO ?aB ?aS ?aL ?_; (case aP => exact Kd.M_row (Kd.R_mono (Kd.R_tight rfl (Kd.R_mono (ok' := fun k_ => ((fun _ => True)) k_ ∧ some k_ ≠ (u3 : Value).ownBlock) (Kd.R_apart' (bV.out) (Kd.S_typed bC.out) (by decide)) (fun k_ hk => ⟨trivial, hk.2⟩))) (fun _ h_ => h_))); (case aB => exact zz0); (case aF => exact (fun _ _ => trivial)); (case aO => exact (by (with_reducible repeat (first | apply Kd.S_alloc | apply Kd.S_drewN | apply Kd.S_drew)); exact Kd.S_mono bC.out (fun k_ hk => ⟨trivial, fun e_ => hk.2 e_⟩))); (case aS => exact (below_size zz0)); (case aL => have := vR.out; omega); intro v111 w32 ho hb hg hat; rw [← qV.out] at ho; have n_ := zA3 (blk_grown (g := aE) (o := .cells #[.int .i64 aD, .slice aH aC.length aG] 25 (0, 0)) zz2 hg (Kd.S_ne bC.out aA.out (by decide))) hb ho; clear aA HB bC bV; obtain ⟨aA, HB, q9⟩ := n_; clear ho hb hg hat))); (try simp only [← fJ]); go_roundg k2; (case measure => have := HK1.out; have := HK2.out; omega); case rel => exact ⟨(pG), (wrap64 (aX + 1)), zz5, H', ⟨zz53⟩, ⟨by (try simp only [fJ]); (with_reducible repeat (first | apply Kd.S_alloc | apply Kd.S_drewN | apply Kd.S_drew)); exact q9.out⟩, ⟨by (try simp only [fJ]); (with_reducible repeat (first | refine blk_drewN ?_ _ | refine blk_drew ?_ | refine blk_alloc ?_ _)); exact aA.out⟩, ⟨zz0⟩⟩
end Go.Proofs.Ytnbljcgdgblgoaa.P
end

section
namespace Go.Proofs.Ytnbljcgdgblgoaa.Cf
set_option linter.unusedVariables false
set_option linter.unusedSimpArgs false
open Go.RowKit Go.Proofs.YtnbljcgdgblgoaaW.PrintWords Go.Proofs.YtnbljcgdgblgoaaW.PrintLast Go.Proofs.YtnbljcgdgblgoaaW.PrintMore Go.Proofs.Ytnbljcgdgblgoaa.P
theorem step_append_own {P : Program} {ops : Array Oper} {o : Oper} {a : Act} {w : World} {K : Act → World → Prop} {Q : Exit → Act → World → Prop} {E : Prop}
  (hg : o.guard = none) (s x : Operand) (t : TypeId) (hop : o.op = Op.call { callee := Callee.builtin Builtin.append, args := #[s, x], argTypes := #[t, t] })
  (base : Nat) (e : TypeId) (i : TypeInfo) (size : Nat) (h1 : P.underlying t = some (.slice e)) (h2 : P.info? e = some i) (h4 : i.size = size)
  (g n cap : Nat) (xs : List Value) (hs : a.eval s = .slice (some ⟨g, 0, none⟩) n cap) (hown : w.ownsRow base e size (.slice (some ⟨g, 0, none⟩) n cap) n xs)
  (ad : Addr) (m c : Nat) (news : List Value) (hx : a.eval x = .slice (some ad) m c) (hn : news.length = m * size) (hc : ∀ j u, news[j]? = some u → w.cell? (ad.add j) = some u) (h1c : ∀ u ∈ news, u.oneCell' = true)
  (hroom : n + m ≤ cap)
  (hK : ∀ w', w'.ownsRow base e size (.slice (some ⟨g, 0, none⟩) (n + m) cap) (n + m) (xs ++ news) → w.grownBy w' (some g) → K (a.put o.dst (.slice (some ⟨g, 0, none⟩) (n + m) cap)) w') :
  if Region.wanted o (yielded ops a.tmps) = true then Oper.wp P o a w K Q else E := by
 have hw : Region.wanted o (yielded ops a.tmps) = true := by simp [Region.wanted, hg]
 rw [if_pos hw]
 obtain ⟨w', hrun, r1, r2⟩ := run_append_fits (P := P) w base t o.type e i size h1 h2 h4 g n cap xs hown ad m c news hn hc h1c hroom
 unfold Oper.wp
 simp [execOp, hop, resolve, invoke, builtin, hs, hx, hrun, Result.andThen]
 exact hK w' r1 r2
theorem own_tail {base e size n : Nat} {cap g : Nat} {xs : List Value} : ∀ (vs : List Value) (o : Nat) (w : World), w.ownsRow base e size (.slice (some ⟨g, 0, none⟩) n cap) n xs → n * size ≤ o → o + vs.length ≤ cap * size →
  (w.setCells g o vs).ownsRow base e size (.slice (some ⟨g, 0, none⟩) n cap) n xs ∧ w.grownBy (w.setCells g o vs) (some g)
 | [], o, w, h, _, _ => ⟨h, World.grownBy.refl _ _⟩
 | v :: vs, o, w, h, h1, h2 => by
  have h0 : (w.setCell ⟨g, o, none⟩ v).ownsRow base e size (.slice (some ⟨g, 0, none⟩) n cap) n xs := by
   obtain ⟨hl, hr⟩ := h
   refine ⟨hl, ?_⟩
   rcases hr with ⟨hv, _⟩ | ⟨g', cap', cur, hv, hb, hh, hn, hm, hs, ht⟩
   ·cases hv
   ·injection hv with ha _ hc
    injection ha with ha
    injection ha with ha
    subst ha
    subst hc
    refine .inr ⟨g, cap, cur.setIfInBounds o v, rfl, hb, blk_put hh o v rfl, hn, hm, by rw [Array.size_setIfInBounds]; exact hs, ?_⟩
    rw [← ht, Array.toList_setIfInBounds, List.take_set_of_le h1]
  have hg : w.grownBy (w.setCell ⟨g, o, none⟩ v) (some g) := ⟨rfl, rfl, rfl, by simp [World.setCell], fun k _ hk => Below.heap_setCell w ⟨g, o, none⟩ v k (fun e => hk (by rw [e]))⟩
  obtain ⟨h3, h4⟩ := own_tail vs (o + 1) _ h0 (by omega) (by rw [List.length_cons] at h2; omega)
  refine ⟨h3, ⟨h4.os.trans hg.os, h4.tape.trans hg.tape, h4.output.trans hg.output, Nat.le_trans hg.size h4.size, fun k hk hne => ?_⟩⟩
  rw [show w.setCells g o (v :: vs) = (w.setCell ⟨g, o, none⟩ v).setCells g (o + 1) vs from rfl, h4.block k (Nat.lt_of_lt_of_le hk hg.size) hne]
  exact hg.block k hk hne
end Go.Proofs.Ytnbljcgdgblgoaa.Cf
end

