/- A part of the proof of FnExactRecurrentPiles. -/
import Derived.Test.YtnbljcgdgblgoaaBFnExactRecurrentPiles1
import Derived.Test.YtnbljcgdgblgoaaBFnExactRecurrentPiles0
import Derived.Test.YtnbljcgdgblgoaaBFnExactRecurrentPilesWApart
import Derived.Test.YtnbljcgdgblgoaaBFnExactRecurrentPilesWMore
import Derived.Deep.LoopGhost
import Derived.Test.YtnbljcgdgblgoaaBFnExactRecurrentPilesWWords
import Derived.Laws.BitsLemmas
import Derived.StillTailTactics
set_option maxHeartbeats 8000000
set_option maxRecDepth 1000000
section
namespace Go.Proofs.Ytnbljcgdgblgoaa.P
open Go.RowKit Go.Proofs.YtnbljcgdgblgoaaW.PrintWords Go.Proofs.YtnbljcgdgblgoaaW.PrintLast Go.Proofs.YtnbljcgdgblgoaaW.PrintMore
attribute [local go_sem] max2_int min2_int max_two min_two max_three min_three max_four min_four
set_option linter.unusedVariables false
set_option linter.unusedSimpArgs false
def spec_l09Less.l0 : Nat → List Int → List Int → Int → Int → Option (Bool)
 | 0, _, _, _, _ => none
 | k + 1, x1, x7, x8, x9 => if x9 < x8 then (if 0 ≤ x9 then (if x9 < (x7.length : Int) then (if x9 < (x1.length : Int) then (if (rd x7 x9) = (rd x1 x9) then (spec_l09Less.l0 k x1 x7 x8 (wrap64 (x9 + 1))) else (some (decide ((rd x7 x9) < (rd x1 x9))))) else (none)) else (none)) else (none)) else (some false)
def spec_l09Less.f (k : Nat) (l0 : List Int) (l1 : List Int) : Option (Bool) := spec_l09Less.l0 k l1 l0 (l0.length : Int) 0
theorem spec_l09Less.mono_l : ∀ k, (∀ y0 y1 y2 y3, LeO (spec_l09Less.l0 k y0 y1 y2 y3) (spec_l09Less.l0 (k + 1) y0 y1 y2 y3))
 | 0 => fun _ _ _ _ r h => by simp [spec_l09Less.l0] at h
 | k + 1 => by
  have ih0 := spec_l09Less.mono_l k
  ·intro y0 y1 y2 y3
   unfold spec_l09Less.l0
   exact zm0
theorem spec_l09Less.mono : ∀ a0 a1 k, LeO (spec_l09Less.f k a0 a1) (spec_l09Less.f (k + 1) a0 a1) := by
 intro a0 a1 k; have ih0 := spec_l09Less.mono_l k; unfold spec_l09Less.f; exact zm0
theorem spec_l09Less.calls (k : Nat) (A0 : Option Addr) (c0 : Nat) (l0 : List Int) (A1 : Option Addr) (c1 : Nat) (l1 : List Int) (r : Bool) (w : World) (hr0 : Kd.C (Kd.int .i64) w A0 l0.length l0) (hc0 : l0.length ≤ c0) (hr1 : Kd.C (Kd.int .i64) w A1 l1.length l1) (hc1 : l1.length ≤ c1) (h : spec_l09Less.f k l0 l1 = some r) :
  Calls Try.prog 96 #[.slice A0 l0.length c0, .slice A1 l1.length c1] w fun e w' => e = .returned (.bool r) ∧ Drawn0 w w' := by
 have HR0 := zK_ hr0; have HC0 := zK_ hc0; clear hr0 hc0; have HR1 := zK_ hr1; have HC1 := zK_ hc1; clear hr1 hc1; have H : (spec_l09Less.l0 k l1 l0 (l0.length : Int) 0) = some r := h; clear h; have H' := zK_ H; clear H; go_enter Try.func96, Try.ntmps96; go_wp2; (go_loopg [9] k (fun kq v9 w' => ∃ (bH : Int), v9 = .int .i64 bH ∧ Aside0 (spec_l09Less.l0 kq l1 l0 (l0.length : Int) bH = some r) ∧ Aside0 (kq ≤ k) ∧ Drawn0 w w')); case atStart => exact ⟨(0), zz5, H', ⟨Nat.le_refl _⟩, by repeat (first | exact Drawn0.refl _ | apply Drawn0.step)⟩
 case round =>
  clear H'; (try clear c1); (try clear p2); obtain ⟨bH, rfl, HA, HK1, ⟨m1, rfl⟩⟩ := hrel
  cases gk with
  | zero => exact absurd HA.out (by simp [spec_l09Less.l0])
  | succ k1 =>
   have H := HA.out; clear HA; simp only [spec_l09Less.l0] at H; by_cases c3 : bH < (l0.length : Int); rotate_left
   ·rw [if_neg c3] at H; have dD := decide_eq_false c3; clear c3; obtain rfl := Option.some.inj H; go_wp2; go_ret; exact ⟨zz5, by repeat (first | exact Drawn0.refl _ | apply Drawn0.step)⟩
   rw [if_pos c3] at H; have dD := decide_eq_true c3; clear c3; by_cases c4 : 0 ≤ bH; rotate_left
   ·rw [if_neg c4] at H; exact absurd H (by simp)
   rw [if_pos c4] at H; have dB := decide_eq_true c4; clear c4; by_cases c5 : bH < (l0.length : Int); rotate_left
   ·rw [if_neg c5] at H; exact absurd H (by simp)
   rw [if_pos c5] at H; have dH := decide_eq_true c5; clear c5; by_cases c6 : bH < (l1.length : Int); rotate_left
   ·rw [if_neg c6] at H; exact absurd H (by simp)
   rw [if_pos c6] at H; have dY := decide_eq_true c6; clear c6; by_cases c7 : (rd l0 bH) = (rd l1 bH)
   ·rw [if_pos c7] at H; have dK : ((rd l0 bH) == (rd l1 bH)) = true := beq_iff_eq.mpr c7; have kW : ((rd l0 bH) != (rd l1 bH)) = false := bne_eq_false_iff_eq.mpr c7; clear c7; have H' := zK_ H; clear H; have p101 : 0 ≤ (bH : Int) := of_decide_eq_true zz3; have q101 : bH < (l0.length : Int) := of_decide_eq_true zz3; obtain ⟨b8, e101, a6⟩ := Kd.at_int HR0.out bH p101 q101; cases e101; replace p101 := eq_true p101; replace q101 := eq_true q101; have p102 : 0 ≤ (bH : Int) := of_decide_eq_true zz3; have q102 : bH < (l1.length : Int) := of_decide_eq_true zz3; obtain ⟨cS, e102, bA⟩ := Kd.at_int HR1.out bH p102 q102; cases e102; replace p102 := eq_true p102; replace q102 := eq_true q102; go_wp2; go_roundg k1; (case measure => have := HK1.out; omega); case rel => exact ⟨(wrap64 (bH + 1)), zz5, H', ⟨zz34⟩, by repeat (first | exact Drawn0.refl _ | apply Drawn0.step)⟩
   rw [if_neg c7] at H; have dK : ((rd l0 bH) == (rd l1 bH)) = false := beq_eq_false_iff_ne.mpr c7; have kW : ((rd l0 bH) != (rd l1 bH)) = true := bne_iff_ne.mpr c7; obtain rfl := Option.some.inj H; have p101 : 0 ≤ (bH : Int) := of_decide_eq_true zz3; have q101 : bH < (l0.length : Int) := of_decide_eq_true zz3; obtain ⟨b8, e101, a6⟩ := Kd.at_int HR0.out bH p101 q101; cases e101; replace p101 := eq_true p101; replace q101 := eq_true q101; have p102 : 0 ≤ (bH : Int) := of_decide_eq_true zz3; have q102 : bH < (l1.length : Int) := of_decide_eq_true zz3; obtain ⟨cS, e102, bA⟩ := Kd.at_int HR1.out bH p102 q102; cases e102; replace p102 := eq_true p102; replace q102 := eq_true q102; have p103 : 0 ≤ (bH : Int) := of_decide_eq_true zz3; have q103 : bH < (l1.length : Int) := of_decide_eq_true zz3; obtain ⟨bD, e103, aQ⟩ := Kd.at_int HR1.out bH p103 q103; obtain rfl : cS = bD := (by injection e103); replace p103 := eq_true p103; replace q103 := eq_true q103; go_wp2; go_ret; exact ⟨zz5, by repeat (first | exact Drawn0.refl _ | apply Drawn0.step)⟩
end Go.Proofs.Ytnbljcgdgblgoaa.P
end

section
namespace Go.Proofs.Ytnbljcgdgblgoaa.Cf
set_option linter.unusedVariables false
set_option linter.unusedSimpArgs false
open Go.RowKit Go.Proofs.YtnbljcgdgblgoaaW.PrintWords
def Heads (w : World) (base : Nat) (ok : Nat → Prop) (f : Nat → Nat) (cur : Array Value) (Z : List (List Int × Nat)) : Prop :=
 ∀ (j : Nat) (x : List Int) (i : Nat), Z[j]? = some (x, i) → ∃ v, cur[j]? = some v ∧ Kd.R (Kd.int .i64) 3 w base (fun k => ok k ∧ f k = i) v x
theorem S_heads {w : World} {base g n cap : Nat} {ok : Nat → Prop} {rows : List (List Int)} (h : Kd.S (Kd.slice 3 (Kd.int .i64)) 26 w base ok (.slice (some ⟨g, 0, none⟩) n cap) rows) :
  ∃ f cur, base ≤ g ∧ ok g ∧ n = rows.length ∧ n ≤ cap ∧ cap ≤ maxLen ∧ cur.size = cap ∧ w.heap[g]? = some (.cells cur 26 (0, 0)) ∧ Heads w base (fun k => ok k ∧ k ≠ g) f cur rows.zipIdx := by
 obtain ⟨f, h0, inner, ho, hr⟩ := h
 rw [List.length_zipIdx] at ho
 have hn := ho.1
 rcases ho.2 with ⟨hv, _⟩ | ⟨g', cap', cur, hv, hb, hc, hnc, hcm, hcs, htk⟩
 ·cases hv
 ·injection hv with hA hN hC
  injection hA with hA
  injection hA with hA
  subst hA
  subst hC
  have hl : (rows.length : Nat) = n := hN.symm
  refine ⟨f, cur, hb, h0 g rfl, hl.symm, by omega, hcm, by rw [hcs]; exact Nat.mul_one _, hc, ?_⟩
  intro j x i hj
  have hM := hr.2 j (x, i) hj
  obtain ⟨v, hv2, hR⟩ := hM
  refine ⟨v, ?_, Kd.R_mono hR fun k hk => ⟨⟨hk.1.1, fun e => hk.1.2 (by rw [e]; rfl)⟩, hk.2⟩⟩
  have e1 : ((inner.drop (j * 1)).take 1) = [v] := hv2
  rw [Nat.mul_one] at e1
  have hjl : j < rows.length := by have := (List.getElem?_eq_some_iff.1 hj).1; rwa [List.length_zipIdx] at this
  have e2 : inner[j]? = some v := by
   have h1 := congrArg (fun l : List Value => l[0]?) e1
   simp only [List.getElem?_take, List.getElem?_drop] at h1
   simpa using h1
  rw [← htk, List.getElem?_take, if_pos (by show j < rows.length * 1; omega)] at e2
  simpa using e2
theorem heads_S {w : World} {base g cap : Nat} {ok : Nat → Prop} {f : Nat → Nat} {cur : Array Value} {rows : List (List Int)} (hb : base ≤ g) (hok : ok g) (hn : rows.length ≤ cap) (hcm : cap ≤ maxLen) (hcs : cur.size = cap) (hc : w.heap[g]? = some (.cells cur 26 (0, 0))) (hH : Heads w base ok f cur rows.zipIdx) :
  Kd.S (Kd.slice 3 (Kd.int .i64)) 26 w base ok (.slice (some ⟨g, 0, none⟩) rows.length cap) rows := by
 have hz : rows.zipIdx.length = rows.length := List.length_zipIdx
 refine ⟨f, fun k hk => ?_, cur.toList.take rows.length, ?_, ?_⟩
 ·have : g = k := by simpa [Value.ownBlock] using hk
  rw [← this]; exact hok
 ·rw [hz]
  refine ⟨?_, .inr ⟨g, cap, cur, rfl, hb, hc, hn, hcm, by rw [hcs]; exact (Nat.mul_one _).symm, ?_⟩⟩
  ·show _ = rows.length * 1
   rw [List.length_take, show cur.toList.length = cap from hcs, Nat.min_eq_left hn, Nat.mul_one]
  ·show cur.toList.take (rows.length * 1) = _
   rw [Nat.mul_one]
 ·refine ⟨?_, fun j p hj => ?_⟩
  ·show _ = rows.zipIdx.length * 1
   rw [hz, List.length_take, show cur.toList.length = cap from hcs, Nat.min_eq_left hn, Nat.mul_one]
  ·obtain ⟨x, i⟩ := p
   obtain ⟨v, hv, hR⟩ := hH j x i hj
   have hjl : j < rows.length := by have := (List.getElem?_eq_some_iff.1 hj).1; rwa [List.length_zipIdx] at this
   refine ⟨v, ?_, Kd.R_mono (Kd.R_types hR hc (by decide)) fun k hk => ⟨⟨hk.1.1, fun e => hk.2 (by simpa [Value.ownBlock] using e)⟩, hk.1.2⟩⟩
   show ((cur.toList.take rows.length).drop (j * 1)).take 1 = [v]
   have e : (cur.toList.take rows.length)[j]? = some v := by
    rw [List.getElem?_take, if_pos hjl]
    simpa using hv
   obtain ⟨hl, he⟩ := List.getElem?_eq_some_iff.1 e
   rw [Nat.mul_one, List.drop_eq_getElem_cons hl, he]
   rfl
def keptZ (p : List Int → Bool) (rows : List (List Int)) (j : Nat) : List (List Int × Nat) := (rows.zipIdx.take j).filter fun x => !p x.1
theorem keptZ_succ (p : List Int → Bool) {rows : List (List Int)} {j : Nat} (h : j < rows.length) : keptZ p rows (j + 1) = keptZ p rows j ++ (if p rows[j] = true then [] else [(rows[j], j)]) := by
 have hz : rows.zipIdx[j]? = some (rows[j], j) := by rw [List.getElem?_zipIdx, List.getElem?_eq_getElem h, Nat.zero_add]; rfl
 unfold keptZ
 rw [List.take_add_one, hz, List.filter_append]
 congr 1
 by_cases c : p rows[j] = true
 ·rw [if_pos c]; simp [c]
 ·rw [if_neg c]; simp [c]
theorem keptZ_all (p : List Int → Bool) (rows : List (List Int)) : (keptZ p rows rows.length).map (·.1) = rows.filter fun x => !p x := by
 unfold keptZ
 rw [List.take_of_length_le (by rw [List.length_zipIdx]; exact Nat.le_refl _)]
 have h := List.filter_map (f := fun x : List Int × Nat => x.1) (p := fun x => !p x) (l := rows.zipIdx)
 rw [List.zipIdx_map_fst] at h
 exact h.symm
theorem keptZ_nodup (p : List Int → Bool) (rows : List (List Int)) (j : Nat) : ((keptZ p rows j).map (·.2)).Nodup := by
 have h1 : (keptZ p rows j).Sublist rows.zipIdx := (List.filter_sublist).trans (List.take_sublist _ _)
 have h2 := h1.map (·.2)
 refine h2.nodup ?_
 rw [List.zipIdx_map_snd]
 exact List.nodup_range'
theorem heads_push {w : World} {base : Nat} {ok : Nat → Prop} {f : Nat → Nat} {cur : Array Value} {Z : List (List Int × Nat)} (h : Heads w base ok f cur Z) {v : Value} {x : List Int} {t : Nat} (hl : Z.length < cur.size) (hR : Kd.R (Kd.int .i64) 3 w base (fun k => ok k ∧ f k = t) v x) : Heads w base ok f (cur.setIfInBounds Z.length v) (Z ++ [(x, t)]) := by
 intro j y i hj
 by_cases e : j < Z.length
 ·rw [List.getElem?_append_left e] at hj
  obtain ⟨u, hu, hRu⟩ := h j y i hj
  exact ⟨u, by rw [Array.getElem?_setIfInBounds_ne (by omega)]; exact hu, hRu⟩
 ·have hjl := (List.getElem?_eq_some_iff.1 hj).1
  rw [List.length_append, List.length_singleton] at hjl
  obtain rfl : j = Z.length := by omega
  rw [List.getElem?_append_right (Nat.le_refl _), Nat.sub_self] at hj
  obtain ⟨rfl, rfl⟩ := Prod.mk.inj (Option.some.inj hj)
  exact ⟨v, by rw [Array.getElem?_setIfInBounds_self_of_lt hl], hR⟩
theorem heads_take {w : World} {base : Nat} {ok : Nat → Prop} {f : Nat → Nat} {cur : Array Value} {Z : List (List Int × Nat)} (h : Heads w base ok f cur Z) (n : Nat) : Heads w base ok f cur (Z.take n) := by
 intro j x i hj
 rw [List.getElem?_take] at hj
 split at hj
 ·exact h j x i hj
 ·cases hj
theorem heads_cells {w : World} {base : Nat} {ok : Nat → Prop} {f : Nat → Nat} {cur cur' : Array Value} {Z : List (List Int × Nat)} (h : Heads w base ok f cur Z) (hc : ∀ j, j < Z.length → cur'[j]? = cur[j]?) : Heads w base ok f cur' Z := by
 intro j x i hj
 obtain ⟨v, hv, hR⟩ := h j x i hj
 exact ⟨v, (hc j (List.getElem?_eq_some_iff.1 hj).1).trans hv, hR⟩
theorem heads_step {w w1 : World} {base : Nat} {ok : Nat → Prop} {f : Nat → Nat} {cur : Array Value} {Z : List (List Int × Nat)} (h : Heads w base ok f cur Z) (hm : ∀ k, ok k → k < w.heap.size → w1.heap[k]? = w.heap[k]?) : Heads w1 base ok f cur Z := fun j x i hj => by
 obtain ⟨v, hv, hR⟩ := h j x i hj
 exact ⟨v, hv, Kd.R_step hR fun k hk hlt => hm k hk.1 hlt⟩
theorem keptZ_pre (p : List Int → Bool) (rows : List (List Int)) {i : Nat} (hi : i ≤ rows.length) (h : ∀ j, (hj : j < rows.length) → j < i → p rows[j] = false) : keptZ p rows i = rows.zipIdx.take i := by
 unfold keptZ
 rw [List.filter_eq_self]
 intro x hx
 obtain ⟨j, hj, rfl⟩ := List.getElem_of_mem hx
 rw [List.length_take, List.length_zipIdx] at hj
 rw [List.getElem_take, List.getElem_zipIdx]
 simp only
 rw [h j (by omega) (by omega)]
 rfl
theorem kept_S {w : World} {base g cap : Nat} {ok : Nat → Prop} {f : Nat → Nat} {cur : Array Value} {rows : List (List Int)} {p : List Int → Bool} (hb : base ≤ g) (hok : ok g) (hn : rows.length ≤ cap) (hcm : cap ≤ maxLen) (hcs : cur.size = cap) (hc : w.heap[g]? = some (.cells cur 26 (0, 0))) (hH : Heads w base ok f cur (keptZ p rows rows.length)) :
  Kd.S (Kd.slice 3 (Kd.int .i64)) 26 w base ok (.slice (some ⟨g, 0, none⟩) (rows.filter fun x => !p x).length cap) (rows.filter fun x => !p x) := by
 have hl : (rows.filter fun x => !p x).length ≤ cap := Nat.le_trans (List.length_filter_le _ _) hn
 refine heads_S (f := fun k => ((keptZ p rows rows.length).map (·.2)).idxOf (f k)) hb hok hl hcm hcs hc ?_
 intro j x i hj
 rw [← keptZ_all p rows] at hj
 rw [List.getElem?_zipIdx, Nat.zero_add, List.getElem?_map] at hj
 obtain ⟨y, hy, he⟩ := Option.map_eq_some_iff.1 hj
 obtain ⟨z, hz, hz2⟩ := Option.map_eq_some_iff.1 hy
 obtain ⟨z1, z2⟩ := z
 subst hz2
 obtain ⟨rfl, rfl⟩ := Prod.mk.inj he
 obtain ⟨v, hv, hR⟩ := hH j z1 z2 hz
 refine ⟨v, hv, Kd.R_mono hR fun k hk => ⟨hk.1, ?_⟩⟩
 show ((keptZ p rows rows.length).map (·.2)).idxOf (f k) = j
 have hm : ((keptZ p rows rows.length).map (·.2))[j]? = some z2 := by rw [List.getElem?_map, hz]; rfl
 obtain ⟨hjl, hje⟩ := List.getElem?_eq_some_iff.1 hm
 rw [hk.2, ← hje]
 exact (keptZ_nodup p rows rows.length).idxOf_getElem j hjl
def encH (t : Option Addr × Nat × Nat) : Value := .slice t.1 t.2.1 t.2.2
def HK : Kd (Option Addr × Nat × Nat) := Kd.scalar encH (fun _ => rfl)
theorem heads_of {w : World} {base n c : Nat} {A : Option Addr} {ok : Nat → Prop} {rows : List (List Int)} (h : Kd.S (Kd.slice 3 (Kd.int .i64)) 26 w base ok (.slice A n c) rows) :
  ∃ (f : Nat → Nat) (H : Nat → Option Addr × Nat × Nat), ∀ (j : Nat) (x : List Int), rows[j]? = some x → Kd.R (Kd.int .i64) 3 w base (fun k => ok k ∧ f k = j) (encH (H j)) x ∧ ∀ g, A = some ⟨g, 0, none⟩ → w.cell? ⟨g, j, none⟩ = some (encH (H j)) := by
 obtain ⟨f, h0, inner, ho, hr⟩ := h
 have key : ∀ (j : Nat) (x : List Int), rows[j]? = some x → ∃ t : Option Addr × Nat × Nat, Kd.R (Kd.int .i64) 3 w base (fun k => ok k ∧ f k = j) (encH t) x ∧ ∀ g, A = some ⟨g, 0, none⟩ → w.cell? ⟨g, j, none⟩ = some (encH t) := by
  intro j x hj
  have hz : rows.zipIdx[j]? = some (x, j) := by rw [List.getElem?_zipIdx, hj, Nat.zero_add]; rfl
  obtain ⟨v, hv2, hR⟩ := hr.2 j (x, j) hz
  obtain ⟨Ax, cx, ex⟩ := Kd.R_slice hR
  subst ex
  have e1 : ((inner.drop (j * 1)).take 1) = [.slice Ax x.length cx] := hv2
  rw [Nat.mul_one] at e1
  have e2 : inner[j]? = some (.slice Ax x.length cx) := by
   have h1 := congrArg (fun l : List Value => l[0]?) e1
   simp only [List.getElem?_take, List.getElem?_drop] at h1
   simpa using h1
  refine ⟨(Ax, x.length, cx), Kd.R_mono hR fun k hk => ⟨hk.1.1, hk.2⟩, fun g hg => ?_⟩
  subst hg
  have h3 := ho.cells (g := g) rfl j _ e2
  rwa [add_plain] at h3
 classical
 refine ⟨f, fun j => if hj : j < rows.length then (key j rows[j] (List.getElem?_eq_getElem hj)).choose else (none, 0, 0), fun j x hx => ?_⟩
 obtain ⟨hj, e⟩ := List.getElem?_eq_some_iff.1 hx
 subst e
 simp only [dif_pos hj]
 exact (key j rows[j] (List.getElem?_eq_getElem hj)).choose_spec
theorem HK_S {w : World} {base : Nat} {okH ok : Nat → Prop} {f : Nat → Nat} {H : Nat → Option Addr × Nat × Nat} {v : Value} {Z : List (List Int × Nat)} (hR : Kd.R HK 26 w base okH v (Z.map fun z => H z.2)) (hz : (Z.map (·.2)).Nodup) (hrow : ∀ z ∈ Z, Kd.R (Kd.int .i64) 3 w base (fun k => ok k ∧ f k = z.2) (encH (H z.2)) z.1) :
  Kd.S (Kd.slice 3 (Kd.int .i64)) 26 w base (fun k => okH k ∨ ok k) v (Z.map (·.1)) := by
 have hty := Kd.R_typed hR
 obtain ⟨h0, inner, ho, hr⟩ := hR
 rw [List.length_map] at ho
 refine ⟨fun k => (Z.map (·.2)).idxOf (f k), fun k hk => Or.inl (h0 k hk), inner, by rw [List.length_zipIdx, List.length_map]; exact ho, ⟨?_, fun j p hj => ?_⟩⟩
 ·rw [List.length_zipIdx, List.length_map]
  have := hr.1
  rw [List.length_map] at this
  exact this
 ·obtain ⟨x, i⟩ := p
  rw [List.getElem?_zipIdx, Nat.zero_add, List.getElem?_map] at hj
  obtain ⟨y, hy, he⟩ := Option.map_eq_some_iff.1 hj
  obtain ⟨z, hz1, hz2⟩ := Option.map_eq_some_iff.1 hy
  obtain ⟨rfl, rfl⟩ := Prod.mk.inj he
  subst hz2
  have hM : ((inner.drop (j * 1)).take 1) = [encH (H z.2)] := hr.2 j (H z.2) (by rw [List.getElem?_map, hz1]; rfl)
  refine ⟨encH (H z.2), hM, ?_⟩
  have hR2 := hrow z (List.mem_of_getElem? hz1)
  have hidx : (Z.map (·.2)).idxOf z.2 = j := by
   have hm : (Z.map (·.2))[j]? = some z.2 := by rw [List.getElem?_map, hz1]; rfl
   obtain ⟨hjl, hje⟩ := List.getElem?_eq_some_iff.1 hm
   rw [← hje]
   exact hz.idxOf_getElem j hjl
  have hR3 : Kd.R (Kd.int .i64) 3 w base (fun k => (ok k ∧ f k = z.2) ∧ some k ≠ v.ownBlock) (encH (H z.2)) z.1 := by
   cases hv : v.ownBlock with
   | none => exact Kd.R_mono hR2 fun k hk => ⟨hk, by simp⟩
   | some g =>
    obtain ⟨cells, hc⟩ := hty g hv
    exact Kd.R_mono (Kd.R_types hR2 hc (by decide)) fun k hk => ⟨hk.1, fun e => hk.2 (by injection e)⟩
  exact Kd.R_mono hR3 fun k hk => ⟨⟨Or.inr hk.1.1, hk.2⟩, by show (Z.map (·.2)).idxOf (f k) = j; rw [hk.1.2]; exact hidx⟩
def kpos {α : Type} (lt : α → α → Bool) (x : α) (Z : List α) : Nat → Nat
 | 0 => 0
 | k + 1 => match Z[k]? with
  | some y => if lt x y = true then kpos lt x Z k else k + 1
  | none => k + 1
def insB {α : Type} (lt : α → α → Bool) (x : α) (Z : List α) : List α := Z.take (kpos lt x Z Z.length) ++ x :: Z.drop (kpos lt x Z Z.length)
def sortB {α : Type} (lt : α → α → Bool) (l : List α) (i : Nat) : List α := (l.take i).foldl (fun Z x => insB lt x Z) []
theorem kpos_le {α : Type} (lt : α → α → Bool) (x : α) (Z : List α) : ∀ k, kpos lt x Z k ≤ k
 | 0 => Nat.le_refl _
 | k + 1 => by
  unfold kpos
  split
  ·split
   ·exact Nat.le_succ_of_le (kpos_le lt x Z k)
   ·exact Nat.le_refl _
  ·exact Nat.le_refl _
theorem kpos_at {α : Type} (lt : α → α → Bool) (x : α) {Z : List α} {k : Nat} {y : α} (h : Z[k]? = some y) : kpos lt x Z (k + 1) = if lt x y = true then kpos lt x Z k else k + 1 := by
 rw [kpos, h]
theorem insB_len {α : Type} (lt : α → α → Bool) (x : α) (Z : List α) : (insB lt x Z).length = Z.length + 1 := by
 have := kpos_le lt x Z Z.length
 unfold insB
 rw [List.length_append, List.length_cons, List.length_take, List.length_drop]
 omega
theorem sortB_succ {α : Type} (lt : α → α → Bool) {l : List α} {i : Nat} {x : α} (h : l[i]? = some x) : sortB lt l (i + 1) = insB lt x (sortB lt l i) := by
 unfold sortB
 rw [List.take_add_one, h, List.foldl_append]
 rfl
theorem sortB_len {α : Type} (lt : α → α → Bool) (l : List α) : ∀ i, i ≤ l.length → (sortB lt l i).length = i
 | 0, _ => rfl
 | i + 1, h => by
  rw [sortB_succ lt (List.getElem?_eq_getElem (show i < l.length by omega)), insB_len, sortB_len lt l i (by omega)]
theorem insB_perm {α : Type} (lt : α → α → Bool) (x : α) (Z : List α) : (insB lt x Z).Perm (x :: Z) := by
 unfold insB
 refine List.perm_middle.trans ?_
 rw [List.take_append_drop]
theorem sortB_perm {α : Type} (lt : α → α → Bool) (l : List α) : ∀ i, i ≤ l.length → (sortB lt l i).Perm (l.take i)
 | 0, _ => by rw [List.take_zero]; exact List.Perm.refl _
 | i + 1, h => by
  rw [sortB_succ lt (List.getElem?_eq_getElem (show i < l.length by omega)), List.take_succ_eq_append_getElem (by omega)]
  exact (insB_perm lt _ _).trans (((sortB_perm lt l i (by omega)).cons _).trans (List.perm_append_comm (l₁ := [l[i]]) (l₂ := l.take i)))
theorem kpos_map {α β : Type} (g : α → β) (lt : β → β → Bool) (x : α) (Z : List α) : ∀ k, kpos (fun a b => lt (g a) (g b)) x Z k = kpos lt (g x) (Z.map g) k
 | 0 => rfl
 | k + 1 => by
  unfold kpos
  rw [List.getElem?_map]
  cases Z[k]? with
  | none => rfl
  | some y => simp only [Option.map_some, kpos_map g lt x Z k]
theorem insB_map {α β : Type} (g : α → β) (lt : β → β → Bool) (x : α) (Z : List α) : (insB (fun a b => lt (g a) (g b)) x Z).map g = insB lt (g x) (Z.map g) := by
 unfold insB
 rw [kpos_map, List.map_append, List.map_cons, List.map_take, List.map_drop, List.length_map]
theorem sortB_map {α β : Type} (g : α → β) (lt : β → β → Bool) (l : List α) : ∀ i, i ≤ l.length → (sortB (fun a b => lt (g a) (g b)) l i).map g = sortB lt (l.map g) i
 | 0, _ => rfl
 | i + 1, h => by
  rw [sortB_succ _ (List.getElem?_eq_getElem (show i < l.length by omega)), insB_map, sortB_map g lt l i (by omega), sortB_succ lt (x := g l[i]) (by rw [List.getElem?_map, List.getElem?_eq_getElem (show i < l.length by omega)]; rfl)]
theorem ins_set {α β : Type} (hd : α → β) {Z : List α} {hk : List β} {k : Nat} (z : α) (hl : hk.length = Z.length + 1) (hkl : k ≤ Z.length) (h1 : ∀ t, t < k → hk[t]? = (Z[t]?).map hd) (h2 : ∀ t, k < t → t ≤ Z.length → hk[t]? = (Z[t - 1]?).map hd) : hk.set k (hd z) = (Z.take k ++ z :: Z.drop k).map hd := by
 refine List.ext_getElem? fun t => ?_
 rw [List.getElem?_map]
 by_cases c1 : t < k
 ·rw [List.getElem?_set_ne (by omega), h1 t c1, List.getElem?_append_left (by rw [List.length_take]; omega), List.getElem?_take, if_pos c1]
 ·rw [List.getElem?_append_right (by rw [List.length_take]; omega), List.length_take, Nat.min_eq_left hkl]
  by_cases c2 : t = k
  ·subst c2
   rw [List.getElem?_set_self (by omega), Nat.sub_self]
   rfl
  ·rw [List.getElem?_set_ne (by omega), show t - k = (t - 1 - k) + 1 by omega, List.getElem?_cons_succ, List.getElem?_drop, show k + (t - 1 - k) = t - 1 by omega]
   by_cases c3 : t ≤ Z.length
   ·exact h2 t (by omega) c3
   ·rw [List.getElem?_eq_none (by omega), List.getElem?_eq_none (by omega)]
    rfl
theorem sortZ_mem {lt : List Int × Nat → List Int × Nat → Bool} {l : List (List Int)} {i : Nat} (hi : i ≤ l.length) {z : List Int × Nat} (h : z ∈ sortB lt l.zipIdx i) : l[z.2]? = some z.1 := by
 have h2 := (sortB_perm lt l.zipIdx i (by rw [List.length_zipIdx]; exact hi)).mem_iff.1 h
 exact List.mem_zipIdx_iff_getElem?.1 (List.mem_of_mem_take h2)
theorem sortZ_nodup {lt : List Int × Nat → List Int × Nat → Bool} {l : List (List Int)} {i : Nat} (hi : i ≤ l.length) : ((sortB lt l.zipIdx i).map (·.2)).Nodup := by
 have h := (sortB_perm lt l.zipIdx i (by rw [List.length_zipIdx]; exact hi)).map (·.2)
 refine h.nodup_iff.2 ?_
 rw [List.map_take, List.zipIdx_map_snd]
 exact (List.take_sublist _ _).nodup List.nodup_range'
end Go.Proofs.Ytnbljcgdgblgoaa.Cf
end

section
namespace Go.Proofs.Ytnbljcgdgblgoaa.P
open Go.RowKit Go.Proofs.YtnbljcgdgblgoaaW.PrintWords Go.Proofs.YtnbljcgdgblgoaaW.PrintLast Go.Proofs.YtnbljcgdgblgoaaW.PrintMore
attribute [local go_sem] max2_int min2_int max_two min_two max_three min_three max_four min_four
set_option linter.unusedVariables false
set_option linter.unusedSimpArgs false
def spec_l09Sort.lt (k : Nat) (x y : List Int) : Bool := spec_l09Less.f k x y == some true
def spec_l09Sort.f (k : Nat) (l : List (List Int)) : Option (List (List Int)) := if l.length ≤ 1000000 ∧ (∀ x ∈ l, ∀ y ∈ l, (spec_l09Less.f k x y).isSome = true) then some (Cf.sortB (spec_l09Sort.lt k) l l.length) else none
theorem spec_l09Sort.sort_congr {lt lt' : List Int → List Int → Bool} {l : List (List Int)} (h : ∀ x ∈ l, ∀ y ∈ l, lt x y = lt' x y) : ∀ i, i ≤ l.length → Cf.sortB lt l i = Cf.sortB lt' l i
 | 0, _ => rfl
 | i + 1, hi => by
  have ih := spec_l09Sort.sort_congr h i (by omega)
  rw [Cf.sortB_succ lt (List.getElem?_eq_getElem (show i < l.length by omega)), Cf.sortB_succ lt' (List.getElem?_eq_getElem (show i < l.length by omega)), ih]
  have hm : ∀ y ∈ Cf.sortB lt' l i, y ∈ l := fun y hy => List.mem_of_mem_take ((Cf.sortB_perm lt' l i (by omega)).mem_iff.1 hy)
  generalize Cf.sortB lt' l i = Z at hm
  have hk : ∀ k, Cf.kpos lt l[i] Z k = Cf.kpos lt' l[i] Z k := by
   intro k
   induction k with
   | zero => rfl
   | succ k ihk =>
    unfold Cf.kpos
    cases hz : Z[k]? with
    | none => rfl
    | some y => simp only [h _ (List.getElem_mem _) y (hm y (List.mem_of_getElem? hz)), ihk]
  unfold Cf.insB; rw [hk]
theorem spec_l09Sort.mono : ∀ a0 k, LeO (spec_l09Sort.f k a0) (spec_l09Sort.f (k + 1) a0) := by
 intro l k r h; unfold spec_l09Sort.f at h ⊢; (split at h); (case isFalse => cases h); rename_i hc
 have up : ∀ x ∈ l, ∀ y ∈ l, spec_l09Less.f (k + 1) x y = spec_l09Less.f k x y := fun x hx y hy => by
  obtain ⟨b, hb⟩ := Option.isSome_iff_exists.1 (hc.2 x hx y hy); rw [hb, spec_l09Less.mono _ _ k _ hb]
 rw [if_pos ⟨hc.1, fun x hx y hy => by rw [up x hx y hy]; exact hc.2 x hx y hy⟩, ← h]; (congr 1); exact spec_l09Sort.sort_congr (fun x hx y hy => by unfold spec_l09Sort.lt; rw [up x hx y hy]) _ (Nat.le_refl _)
theorem spec_l09Sort.callsS (k : Nat) (P0_ : Nat → Prop) (u9_ : Value) (l r : List (List Int)) (w0 w : World) (hB : Below w0.heap.size w0 w) (ho0 : Kd.S (Kd.slice 3 (Kd.int .i64)) 26 w w0.heap.size P0_ u9_ l) (h : spec_l09Sort.f k l = some r) :
  Calls Try.prog 59 #[u9_] w fun e w' => ∃ v0_ : Value, e = .returned (v0_) ∧ Kd.S (Kd.slice 3 (Kd.int .i64)) 26 w' w0.heap.size (fun k_ => P0_ k_ ∨ w.heap.size ≤ k_) v0_ r ∧ Below w.heap.size w w' := by
 unfold spec_l09Sort.f at h; (split at h); (case isFalse => cases h); rename_i hc; obtain rfl := Option.some.inj h; clear h; obtain ⟨A9, c9, e9⟩ := Kd.S_slice ho0; subst e9; obtain ⟨f, H, hH⟩ := Cf.heads_of ho0; have HB := zK_ hB; have HS := zK_ ho0; have HH := zK_ hH; have HLN := zK_ hc.1; have HLE := zK_ hc.2; (have hnb : (l.length : Int) ≤ 1000000 := by have := hc.1; omega); clear hB ho0 hH hc; go_enter Try.func59, Try.ntmps59; (go_wp2_with (first | ((with_reducible refine gate_dst (N := 7) rfl ?_); refine Kd.R_lit (w0 := w) Cf.HK w.heap.size 26 ?hg (N := 7) ?hd (xs := ([] : List (Option Addr × Nat × Nat))) (inner := []) (ok := fun _ => True) (okp := fun _ => True) ?hr ?hp (fun _ hk => hk) trivial (Below.refl _ _) (Nat.le_refl _) (by simp) ?_; (case hd => rfl); (case hg => rfl); (case hr => exact zz9); (case hp => exact (Reps.none _ _)); intro v7 w1 ho hb hg_ hnew_; have HO1 := zK_ ho; have HB1 := zK_ hb; clear ho hb hg_ hnew_))); (go_loopw [3, 10] (fun v3 v10 wr => ∃ i : Nat, v10 = .int .i64 (i : Int) ∧ Aside0 (i ≤ l.length) ∧ Aside0 (Below w.heap.size w wr) ∧ Aside0 (Kd.R Cf.HK 26 wr w.heap.size (fun _ => True) v3 ((Cf.sortB (fun a b : List Int × Nat => spec_l09Sort.lt k a.1 b.1) l.zipIdx i).map (fun z : List Int × Nat => H z.2)))) (fun _ v _ => l.length - (intOf v).toNat)); case atStart => exact ⟨0, rfl, ⟨Nat.zero_le _⟩, HB1, HO1⟩
 case round =>
  clear HO1 HB1; obtain ⟨i, rfl, HI, HBr, HR⟩ := hrel; by_cases hlt : i < l.length; rotate_left
  ·have c0_ : decide ((i : Int) < (l.length : Int)) = false := decide_eq_false (by omega); have c1_ : decide (i < l.length) = false := decide_eq_false hlt; (have hi : i = l.length := by have := HI.out; omega); subst hi; clear hlt; go_wp2; go_ret; have hsm := Cf.sortB_map (fun z : List Int × Nat => z.1) (spec_l09Sort.lt k) l.zipIdx l.length (by rw [List.length_zipIdx]; exact Nat.le_refl _); rw [List.zipIdx_map_fst] at hsm; have hfinal := Cf.HK_S (f := f) (H := H) (ok := P0_) (Kd.R_lower (Kd.R_mono (Kd.R_bound HR.out) (ok' := fun k_ => w.heap.size ≤ k_) fun k_ hk => hk.2.1) HB.out.size) (Cf.sortZ_nodup (Nat.le_refl _)) (fun z hz => Kd.R_below (HH.out z.2 z.1 (Cf.sortZ_mem (Nat.le_refl _) hz)).1 HBr.out); rw [hsm] at hfinal; exact ⟨_, rfl, Kd.S_mono hfinal (fun k_ h => h.symm), HBr.out⟩
  have c0_ : decide ((i : Int) < (l.length : Int)) = true := decide_eq_true (by omega); have c1_ : decide (i < l.length) = true := decide_eq_true hlt; (have p1 : (0 : Int) ≤ (i : Int) := by omega); (have p2 : (i : Int) < (l.length : Int) := by omega); (have hib : (i : Int) ≤ 1000000 := by omega); obtain ⟨g0, cap0, eg, _⟩ := Kd.S_form HS.out (by omega); injection eg with eA _ eC; subst eA; subst eC; obtain ⟨x, hxi⟩ : ∃ x, l[i]? = some x := ⟨_, List.getElem?_eq_getElem hlt⟩; obtain ⟨hRx, hcx⟩ := HH.out i x hxi; have hcx1 := hcx g0 rfl; obtain ⟨Ax, cx, ex⟩ := Kd.R_slice hRx; have HRX := zK_ hRx; (have hcell : wr.cell? ⟨g0, i, none⟩ = some (.slice Ax x.length cx) := by rw [(HBr.out.cell (World.block_lt_of_cell? w _ hcx1)).trans hcx1, ex]); have HEX := zK_ ex; have hZl : (Cf.sortB (fun a b : List Int × Nat => spec_l09Sort.lt k a.1 b.1) l.zipIdx i).length = i := Cf.sortB_len _ _ i (by rw [List.length_zipIdx]; omega); have HZL := zK_ hZl; have HXI := zK_ hxi; have HLT := zK_ hlt; have HZS := zK_ (Cf.sortB_succ (fun a b : List Int × Nat => spec_l09Sort.lt k a.1 b.1) (l := l.zipIdx) (i := i) (x := (x, i)) (by rw [List.getElem?_zipIdx, hxi, Nat.zero_add]; rfl)); have HMEM := zK_ (show ∀ z ∈ (Cf.sortB (fun a b : List Int × Nat => spec_l09Sort.lt k a.1 b.1) l.zipIdx i), l[z.2]? = some z.1 from fun z hz => Cf.sortZ_mem (by omega) hz); clear hRx hcx hcx1 ex hZl hxi hlt; generalize (Cf.sortB (fun a b : List Int × Nat => spec_l09Sort.lt k a.1 b.1) l.zipIdx i) = Z at HR HZL HZS HMEM; (go_upto_region 6 with (first | ((with_reducible refine gate_builtin (b := .append) (xs := #[.tmp 14, .tmp 15]) rfl ?_); at_builtin; refine Kd.R_append Cf.HK (w0 := w) w.heap.size rfl (.tmp 14) (.tmp 15) 34 26 (.slice none 0 0) 24 rfl Try.underlying34 info26 rfl (by decide) (by omega) u3 (Z.map (fun z : List Int × Nat => H z.2)) (none, 0, 0) [.slice none 0 0] (fun _ => True) (fun _ => False) rfl rfl rfl (fun _ hk => hk.elim) (fun _ _ => trivial) HR.out HBr.out (below_size HBr.out) (by have := HZL.out; have := HLN.out; have := HI.out; rw [List.length_map]; omega) ?_; intro vC wC ho hb hg hat; have HOC := zK_ ho; have HBC := zK_ hb; clear ho hb hg hat))); have hfm := HOC.out; (have hlen1 : (Z.map (fun z : List Int × Nat => H z.2) ++ [((none, 0, 0) : Option Addr × Nat × Nat)]).length = i + 1 := by rw [List.length_append, List.length_map, HZL.out]; rfl); obtain ⟨g, cap, eC, hgb, _⟩ := Kd.R_form hfm (by rw [hlen1]; omega); subst eC; have HGB := zK_ hgb; obtain ⟨m1, hm1⟩ : ∃ m1 : Nat, i + 1 = m1 := ⟨_, rfl⟩; have HM1 := zK_ hm1; rw [hlen1, hm1] at hfm; rw [hlen1, hm1]; have HO2 := zK_ hfm; obtain ⟨ki, eki⟩ : ∃ z : Int, wrap64 ((m1 : Int) - 1) = z := ⟨_, rfl⟩; have ekiw : IntKind.i64.wrap ((m1 : Int) - 1) = ki := (i64_w _).trans eki; have HKI := zK_ (show ki = (i : Int) from by rw [← eki]; unfold wrap64; omega); (have hm1b : (m1 : Int) ≤ 1000001 := by omega); clear hfm hgb hm1 HOC HR hcell hlen1; (try go_wp2); go_loopw [6] (fun v6 wr => ∃ (kk : Nat) (hk : List (Option Addr × Nat × Nat)), v6 = .int .i64 (kk : Int) ∧ Aside0 (kk ≤ i ∧ Cf.kpos (fun a b : List Int × Nat => spec_l09Sort.lt k a.1 b.1) (x, i) Z Z.length = Cf.kpos (fun a b : List Int × Nat => spec_l09Sort.lt k a.1 b.1) (x, i) Z kk) ∧ Aside0 (Below w.heap.size w wr) ∧ Aside0 (Kd.R Cf.HK 26 wr w.heap.size (fun _ => True) (.slice (some ⟨g, 0, none⟩) m1 cap) hk ∧ hk.length = i + 1) ∧ Aside0 ((∀ t, t < kk → hk[t]? = (Z[t]?).map (fun z : List Int × Nat => H z.2)) ∧ (∀ t, kk < t → t ≤ i → hk[t]? = (Z[t - 1]?).map (fun z : List Int × Nat => H z.2)))) (fun v _ => (intOf v).toNat)
  case atStart =>
   refine ⟨i, Z.map (fun z : List Int × Nat => H z.2) ++ [(none, 0, 0)], by rw [HKI.out], ⟨Nat.le_refl _, by rw [HZL.out]⟩, HBC, ⟨HO2.out, by rw [List.length_append, List.length_map, HZL.out]; rfl⟩, ⟨fun t ht => ?_, fun t h1 h2 => by omega⟩⟩; rw [List.getElem?_append_left (by rw [List.length_map, HZL.out]; exact ht), List.getElem?_map]
  case round =>
   clear HO2 HBC eki ekiw; obtain ⟨kk, hk, rfl, HK, HBk, HRk, HHk⟩ := hrel; (have hkb : (kk : Int) ≤ 1000000 := by have := HK.out; omega); (have hkm : (kk : Int) < (m1 : Int) := by have := HK.out; have := HM1.out; omega); (have hk0 : (0 : Int) ≤ (kk : Int) := by omega); obtain ⟨hmk, hmf⟩ := Kd.R_celln (none, 0, 0) HRk.out.1 (kk : Int) hk0 hkm; rw [Int.toNat_natCast] at hmk hmf; by_cases hkz : kk = 0
   ·subst hkz; have c4_ : decide (((0 : Nat) : Int) > 0) = false := rfl; (have hfin : Cf.insB (fun a b : List Int × Nat => spec_l09Sort.lt k a.1 b.1) (x, i) Z = Z.take 0 ++ (x, i) :: Z.drop 0 := by unfold Cf.insB; rw [HK.out.2, show Cf.kpos _ (x, i) Z 0 = 0 from rfl]); have hput := Kd.R_putg HRk.out.1 ((0 : Nat) : Int) (H i); rw [Int.toNat_natCast, HEX.out] at hput; have hset := Cf.ins_set (fun z : List Int × Nat => H z.2) (Z := Z) (hk := hk) (k := 0) (x, i) (by rw [HRk.out.2, HZL.out]) (by rw [HZL.out]; exact HK.out.1) HHk.out.1 (fun t h1 h2 => HHk.out.2 t h1 (by rw [HZL.out] at h2; exact h2)); have HPUT := zK_ hput.1; have HSET := zK_ hset; have HFIN := zK_ hfin; clear hput hset hfin; go_wp2; go_roundw
    case rel =>
     refine ⟨i + 1, by go_num, ⟨HLT.out⟩, ⟨below_set HBk.out HGB.out⟩, ⟨?_⟩⟩; rw [HZS.out, HFIN.out, ← HSET.out]; exact HPUT.out
    case measure =>
     have := HLT.out; (simp [intOf]); omega
   obtain ⟨k1, rfl⟩ : ∃ k1, kk = k1 + 1 := ⟨kk - 1, by omega⟩; (have hk1i : k1 < i := by have := HK.out; omega); obtain ⟨z, hz⟩ : ∃ z, Z[k1]? = some z := ⟨_, List.getElem?_eq_getElem (show k1 < Z.length by rw [HZL.out]; exact hk1i)⟩; have hzm := HMEM.out z (List.mem_of_getElem? hz); obtain ⟨hRz, _⟩ := HH.out z.2 z.1 hzm; obtain ⟨Az, cz, ez⟩ := Kd.R_slice hRz; obtain ⟨b, hb⟩ := Option.isSome_iff_exists.1 (HLE.out x (List.mem_of_getElem? HXI.out) z.1 (List.mem_of_getElem? hzm)); generalize hkk : k1 + 1 = kk at hmk hmf hkb hkm hk0 HK HHk ⊢; have c4_ : decide ((kk : Int) > 0) = true := decide_eq_true (by omega); have c5_ : decide (0 < kk) = true := decide_eq_true (by omega); obtain ⟨kz, ekz⟩ : ∃ y : Int, wrap64 ((kk : Int) - 1) = y := ⟨_, rfl⟩; have ekzw : IntKind.i64.wrap ((kk : Int) - 1) = kz := (i64_w _).trans ekz; (have hkz2 : kz = (k1 : Int) := by rw [← ekz]; unfold wrap64; omega); (have q1 : (0 : Int) ≤ kz := by omega); (have q2 : kz < (m1 : Int) := by omega); obtain ⟨hmz, hmzf⟩ := Kd.R_celln (none, 0, 0) HRk.out.1 kz q1 q2; (have hrd : rdOf ((none, 0, 0) : Option Addr × Nat × Nat) hk kz = H z.2 := by unfold rdOf; rw [hkz2, Int.toNat_natCast, List.getD_eq_getElem?_getD, HHk.out.1 k1 (by omega), hz]; rfl); rw [hrd, ez] at hmz; have HZ1 := zK_ hz; have HKK := zK_ hkk; have HKZ := zK_ hkz2; have HEZ := zK_ ez; have HLB := zK_ hb; have HRZ := zK_ (Kd.R_reads' (ez ▸ hRz)); have HRX2 := zK_ (Kd.R_reads' (HEX.out ▸ HRX.out)); clear hz hzm hRz hb hkk hkz2 hmzf hrd ez hkz hk1i; (go_wp2_with fail); refine (spec_l09Less.calls k _ _ x _ _ z.1 b _ (Kd.C_below HRX2.out.2.2 HBk.out) HRX2.out.2.1 (Kd.C_below HRZ.out.2.2 HBk.out) HRZ.out.2.1 HLB.out).mono ?_; rintro e w5 ⟨rfl, hd⟩; have hdb := Drawn0.below hd; have HB5 := zK_ (below_step HBk.out hdb); have HR5 := zK_ (show Kd.R Cf.HK 26 w5 w.heap.size (fun _ => True) (.slice (some ⟨g, 0, none⟩) m1 cap) hk ∧ hk.length = i + 1 from ⟨Kd.R_below HRk.out.1 hdb, HRk.out.2⟩); clear hd hdb hmk hmf hmz HBk HRk; obtain ⟨hmk, hmf⟩ := Kd.R_celln (none, 0, 0) HR5.out.1 (kk : Int) hk0 hkm; rw [Int.toNat_natCast] at hmk hmf; obtain ⟨hmz, hmzf⟩ := Kd.R_celln (none, 0, 0) HR5.out.1 kz q1 q2; (have hrd : rdOf ((none, 0, 0) : Option Addr × Nat × Nat) hk kz = H z.2 := by unfold rdOf; rw [HKZ.out, Int.toNat_natCast, List.getD_eq_getElem?_getD, HHk.out.1 k1 (by have := HKK.out; omega), HZ1.out]; rfl); rw [hrd, HEZ.out] at hmz; (have hkp : Cf.kpos (fun a b : List Int × Nat => spec_l09Sort.lt k a.1 b.1) (x, i) Z kk = if b = true then Cf.kpos (fun a b : List Int × Nat => spec_l09Sort.lt k a.1 b.1) (x, i) Z k1 else kk := by rw [← HKK.out, Cf.kpos_at _ _ HZ1.out]; show (if spec_l09Sort.lt k x z.1 = true then _ else _) = _; unfold spec_l09Sort.lt; rw [HLB.out]; cases b <;> rfl); have HKP := zK_ hkp; have HRD := zK_ hrd; clear hkp hrd hmzf; have HRk := HR5; have HBk := HB5
   cases b with
   | false =>
    (have hfin : Cf.insB (fun a b : List Int × Nat => spec_l09Sort.lt k a.1 b.1) (x, i) Z = Z.take kk ++ (x, i) :: Z.drop kk := by unfold Cf.insB; rw [HK.out.2, HKP.out, if_neg (by simp)]); have hput := Kd.R_putg HRk.out.1 (kk : Int) (H i); rw [Int.toNat_natCast, HEX.out] at hput; have hset := Cf.ins_set (fun z : List Int × Nat => H z.2) (Z := Z) (hk := hk) (k := kk) (x, i) (by rw [HRk.out.2, HZL.out]) (by rw [HZL.out]; exact HK.out.1) HHk.out.1 (fun t h1 h2 => HHk.out.2 t h1 (by rw [HZL.out] at h2; exact h2)); have HPUT := zK_ hput.1; have HSET := zK_ hset; have HFIN := zK_ hfin; clear hput hset hfin; go_wp2; go_roundw
    case rel =>
     refine ⟨i + 1, by go_num, ⟨HLT.out⟩, ⟨below_set HBk.out HGB.out⟩, ⟨?_⟩⟩; rw [HZS.out, HFIN.out, ← HSET.out]; exact HPUT.out
    case measure =>
     have := HLT.out; (simp [intOf]); omega
   | true =>
    have hput := Kd.R_putg HR5.out.1 (kk : Int) (H z.2); rw [Int.toNat_natCast, HEZ.out] at hput; have HPUT := zK_ hput.1; clear hput; go_wp2; go_roundw
    case rel =>
     refine ⟨k1, hk.set kk (H z.2), by rw [HKZ.out], ⟨by have := HK.out; have := HKK.out; omega, by rw [HK.out.2, HKP.out]; simp⟩, ⟨below_set HB5.out HGB.out⟩, ⟨HPUT.out, by rw [List.length_set]; exact HR5.out.2⟩, ⟨fun t ht => ?_, fun t h1 h2 => ?_⟩⟩
     ·rw [List.getElem?_set_ne (by have := HKK.out; omega)]; exact HHk.out.1 t (by have := HKK.out; omega)
     ·by_cases e : t = kk
      ·subst e; rw [List.getElem?_set_self (by have := HR5.out.2; omega), show t - 1 = k1 by have := HKK.out; omega, HZ1.out]; rfl
      ·rw [List.getElem?_set_ne (by omega)]; exact HHk.out.2 t (by have := HKK.out; omega) h2
    case measure =>
     have := HKZ.out; have := HKK.out; (simp [intOf]); omega
def spec_l07Minus.l0 : Nat → List Int → List Int → List Int → Int → Int → Option (List Int)
 | 0, _, _, _, _, _ => none
 | k + 1, x1, x5, x9, fI, eR => if eR < fI then (if 0 ≤ eR then (if eR < (x9.length : Int) then (if eR < (x1.length : Int) then (if x5.length < 17592186044416 then (spec_l07Minus.l0 k x1 (x5 ++ [wrap64 ((rd x9 eR) - (rd x1 eR))]) x9 fI (wrap64 (eR + 1))) else (none)) else (none)) else (none)) else (none)) else (some x5)
def spec_l07Minus.f (k : Nat) (l0 : List Int) (l1 : List Int) : Option (List Int) := spec_l07Minus.l0 k l1 (([] : List Int)) l0 (l0.length : Int) 0
theorem spec_l07Minus.mono_l : ∀ k, (∀ y0 y1 y2 y3 y4, LeO (spec_l07Minus.l0 k y0 y1 y2 y3 y4) (spec_l07Minus.l0 (k + 1) y0 y1 y2 y3 y4))
 | 0 => fun _ _ _ _ _ r h => by simp [spec_l07Minus.l0] at h
 | k + 1 => by
  have ih0 := spec_l07Minus.mono_l k
  ·intro y0 y1 y2 y3 y4
   unfold spec_l07Minus.l0
   exact zm0
theorem spec_l07Minus.mono : ∀ a0 a1 k, LeO (spec_l07Minus.f k a0 a1) (spec_l07Minus.f (k + 1) a0 a1) := by
 intro a0 a1 k; have ih0 := spec_l07Minus.mono_l k; unfold spec_l07Minus.f; exact zm0
theorem spec_l07Minus.calls (k : Nat) (A0 : Option Addr) (c0 : Nat) (l0 : List Int) (A1 : Option Addr) (c1 : Nat) (l1 : List Int) (r : List Int) (w : World) (hr0 : Kd.C (Kd.int .i64) w A0 l0.length l0) (hc0 : l0.length ≤ c0) (hr1 : Kd.C (Kd.int .i64) w A1 l1.length l1) (hc1 : l1.length ≤ c1) (h : spec_l07Minus.f k l0 l1 = some r) :
  Calls Try.prog 101 #[.slice A0 l0.length c0, .slice A1 l1.length c1] w fun e w' => ∃ v0_ : Value, e = .returned (v0_) ∧ Kd.R (Kd.int .i64) 3 w' w.heap.size (fun _ => True) v0_ r ∧ Below w.heap.size w w' := by
 have HR0 := zK_ hr0; have HC0 := zK_ hc0; clear hr0 hc0; have HR1 := zK_ hr1; have HC1 := zK_ hc1; clear hr1 hc1; have HB := zK_ (Below.refl w.heap.size w); have H : (spec_l07Minus.l0 k l1 (([] : List Int)) l0 (l0.length : Int) 0) = some r := h; clear h; obtain ⟨fE, hy_⟩ : ∃ y_ : List Int, y_ = (([] : List Int)) := ⟨_, rfl⟩; (replace H : (spec_l07Minus.l0 k l1 fE l0 (l0.length : Int) 0) = some r := zzY); have gK := zK_ hy_; clear hy_; have H' := zK_ H; clear H; go_enter Try.func101, Try.ntmps101; (go_wp2_with (first | ((with_reducible refine gate_dst (N := 8) rfl ?_); refine Kd.R_lit (Kd.int .i64) _ 3 ?hg (N := 8) ?hd (xs := ([] : List Int)) (inner := []) (ok := fun _ => True) (okp := fun _ => True) ?hr ?hp (fun _ hk => hk) trivial (Below.refl _ _) (Nat.le_refl _) (by simp) ?_; (case hd => rfl); (case hg => rfl); (case hr => exact zz9); (case hp => exact (Reps.none _ _)); intro v102 w3 ho4 hb hg_ hnew_; clear hg_ hnew_; (first | rw [← gK.out] at ho4 | (simp only [Int.reduceToNat] at ho4; rw [← gK.out] at ho4)); have n_ := zA2 (Kd.R_lower ho4 (below_size zz1)) (below_step zz1 hb); clear HB; obtain ⟨jV, HB⟩ := n_; clear hb ho4))); (go_loopg [5, 11] k (fun kq v5 v11 w' => ∃ (aN : List Int) (aI : Int), v11 = .int .i64 aI ∧ Aside0 (spec_l07Minus.l0 kq l1 aN l0 (l0.length : Int) aI = some r) ∧ Aside0 (kq ≤ k) ∧ Aside0 (Kd.R (Kd.int .i64) 3 w' w.heap.size (fun _ => True) v5 aN) ∧ Aside0 (Below w.heap.size w w'))); case atStart => exact ⟨(fE), (0), zz5, H', ⟨Nat.le_refl _⟩, ⟨zz41⟩, ⟨zz1⟩⟩
 case round =>
  clear H'; (try clear c1); (try clear p2); obtain ⟨aN, aI, rfl, HA, HK1, bY, HB⟩ := hrel
  cases gk with
  | zero => exact absurd HA.out (by simp [spec_l07Minus.l0])
  | succ k1 =>
   have H := HA.out; clear HA; simp only [spec_l07Minus.l0] at H; by_cases c5 : aI < (l0.length : Int); rotate_left
   ·rw [if_neg c5] at H; have dH := decide_eq_false c5; clear c5; obtain rfl := Option.some.inj H; go_wp2; go_ret; exact ⟨_, zz7, zz22, zz1⟩
   rw [if_pos c5] at H; have dH := decide_eq_true c5; clear c5; by_cases c6 : 0 ≤ aI; rotate_left
   ·rw [if_neg c6] at H; exact absurd H (by simp)
   rw [if_pos c6] at H; have dY := decide_eq_true c6; clear c6; by_cases c7 : aI < (l0.length : Int); rotate_left
   ·rw [if_neg c7] at H; exact absurd H (by simp)
   rw [if_pos c7] at H; have dK := decide_eq_true c7; clear c7; by_cases c8 : aI < (l1.length : Int); rotate_left
   ·rw [if_neg c8] at H; exact absurd H (by simp)
   rw [if_pos c8] at H; have fP := decide_eq_true c8; clear c8; by_cases c9 : aN.length < 17592186044416; rotate_left
   ·rw [if_neg c9] at H; exact absurd H (by simp)
   rw [if_pos c9] at H; have rR := zK_ c9; clear c9; obtain ⟨l3, hy_⟩ : ∃ y_ : List Int, y_ = (aN ++ [wrap64 ((rd l0 aI) - (rd l1 aI))]) := ⟨_, rfl⟩; (replace H : (spec_l07Minus.l0 k1 l1 l3 l0 (l0.length : Int) (wrap64 (aI + 1))) = some r := zzY); have k9 := zK_ hy_; clear hy_; have H' := zK_ H; clear H; have p104 : 0 ≤ (aI : Int) := of_decide_eq_true zz3; have q104 : aI < (l0.length : Int) := of_decide_eq_true zz3; obtain ⟨dL, e104, bE⟩ := Kd.at_int HR0.out aI p104 q104; cases e104; replace bE := (HB.out.cell (World.block_lt_of_cell? w _ bE)).trans bE; replace p104 := eq_true p104; replace q104 := eq_true q104; have p105 : 0 ≤ (aI : Int) := of_decide_eq_true zz3; have q105 : aI < (l1.length : Int) := of_decide_eq_true zz3; obtain ⟨cQ, e105, bF⟩ := Kd.at_int HR1.out aI p105 q105; cases e105; replace bF := (HB.out.cell (World.block_lt_of_cell? w _ bF)).trans bF; replace p105 := eq_true p105; replace q105 := eq_true q105; (go_wp2_with (first | ((with_reducible refine gate_builtin (b := .append) (xs := #[.tmp 16, .tmp 23]) rfl ?_); at_builtin; refine Kd.R_append (Kd.int .i64) (w0 := w) w.heap.size rfl (.tmp 16) (.tmp 23) 26 3 (.int .i64 0) 8 rfl Try.underlying26 info3 rfl (by decide) (by omega) u5 aN (wrap64 ((rd l0 aI) - (rd l1 aI))) [.int .i64 (wrap64 ((rd l0 aI) - (rd l1 aI)))] (fun _ => True) (fun _ => False) rfl rfl ?aP (fun _ hk => hk.elim) ?aF ?aO ?aB ?aS ?aL ?_; (case aP => exact rfl); (case aB => exact zz1); (case aF => exact (fun _ _ => trivial)); (case aO => exact zz22); (case aS => exact (below_size zz1)); (case aL => have := rR.out; omega); intro v107 w10 ho hb hg hat; rw [← k9.out] at ho; have n_ := zA2 hb ho; clear HB bY; obtain ⟨HB, i2⟩ := n_; clear ho hb hg hat))); go_roundg k1; (case measure => have := HK1.out; omega); case rel => exact ⟨(l3), (wrap64 (aI + 1)), zz5, H', ⟨zz34⟩, ⟨by (with_reducible repeat (first | apply Kd.R_alloc | apply Kd.R_drewN | apply Kd.R_drew)); exact i2.out⟩, ⟨zz1⟩⟩
mutual
def spec_FullPile.j0 : Nat → Int → Bool → Int → List (S57) → Option (List Int)
 | 0, _, _, _, _ => none
 | k + 1, x1, iC, aM, aJ => if iC = true then (some ([] : List Int)) else (spec_FullPile.l0 k x1 (([] : List Int)) 0 aM aJ)
def spec_FullPile.l0 : Nat → Int → List Int → Int → Int → List (S57) → Option (List Int)
 | 0, _, _, _, _, _ => none
 | k + 1, x1, x5, x6, aM, aJ => if x6 < aM then (if x6 = x1 then (if x5.length < 17592186044416 then (spec_FullPile.l0 k x1 (x5 ++ [0]) (wrap64 (x6 + 1)) aM aJ) else (none)) else ((spec_Valence.f k aM aJ x6).bind fun kU => (if x5.length < 17592186044416 then (spec_FullPile.l0 k x1 (x5 ++ [wrap64 (kU - 1)]) (wrap64 (x6 + 1)) aM aJ) else (none)))) else (some x5)
end
def spec_FullPile.f (k : Nat) (aD : Int) (aA : List (S57)) (a1 : Int) : Option (List Int) := (spec_GraphOk.f k aD aA).bind fun aZ => (if aZ = true then ((spec_l01In.f a1 0 (wrap64 (aD - 1))).bind fun bN => (spec_FullPile.j0 k a1 (!bN) aD aA)) else (spec_FullPile.j0 k a1 true aD aA))
theorem spec_FullPile.mono_l : ∀ k, (∀ y0 y1 y2 y3, LeO (spec_FullPile.j0 k y0 y1 y2 y3) (spec_FullPile.j0 (k + 1) y0 y1 y2 y3)) ∧ (∀ y0 y1 y2 y3 y4, LeO (spec_FullPile.l0 k y0 y1 y2 y3 y4) (spec_FullPile.l0 (k + 1) y0 y1 y2 y3 y4))
 | 0 => ⟨fun _ _ _ _ r h => by simp [spec_FullPile.j0] at h, fun _ _ _ _ _ r h => by simp [spec_FullPile.l0] at h⟩
 | k + 1 => by
  obtain ⟨ih0, ih1⟩ := spec_FullPile.mono_l k
  refine ⟨?_, ?_⟩
  ·intro y0 y1 y2 y3
   unfold spec_FullPile.j0
   exact zm9
  ·intro y0 y1 y2 y3 y4
   unfold spec_FullPile.l0
   exact zm9
theorem spec_FullPile.mono : ∀ a0 a1 a2 k, LeO (spec_FullPile.f k a0 a1 a2) (spec_FullPile.f (k + 1) a0 a1 a2) := by
 intro a0 a1 a2 k; obtain ⟨ih0, ih1⟩ := spec_FullPile.mono_l k; unfold spec_FullPile.f; exact zm9
theorem spec_FullPile.calls (k : Nat) (aD : Int) (aH : Option Addr) (aG : Nat) (aA : List (S57)) (a1 : Int) (r : List Int) (w : World) (hr0_1 : Kd.C k57 w aH aA.length aA) (hc0_1 : aA.length ≤ aG) (h : spec_FullPile.f k aD aA a1 = some r) :
  Calls Try.prog 102 #[.agg #[.int .i64 aD, .slice aH aA.length aG], .int .i64 a1] w fun e w' => ∃ v0_ : Value, e = .returned (v0_) ∧ Kd.R (Kd.int .i64) 3 w' w.heap.size (fun _ => True) v0_ r ∧ Below w.heap.size w w' := by
 have hu25 := Try.underlying25; have bL := zK_ hr0_1; have bG := zK_ hc0_1; clear hr0_1 hc0_1; have HB := zK_ (Below.refl w.heap.size w); have H : ((spec_GraphOk.f k aD aA).bind fun aZ => (if aZ = true then ((spec_l01In.f a1 0 (wrap64 (aD - 1))).bind fun bN => (spec_FullPile.j0 k a1 (!bN) aD aA)) else (spec_FullPile.j0 k a1 true aD aA))) = some r := h; clear h; have HC3 := zK_ H; clear H; go_enter Try.func102, Try.ntmps102; (go_upto_region 1 with (first | ((with_reducible refine gate_dst (N := 2) rfl ?_); refine box_event ?hg (N := 2) ?hd (cs := #[.int .i64 aD, .slice aH aA.length aG]) (t := 25) ?hr ?_; (case hd => rfl); (case hg => rfl); (case hr => exact zz9); intro aE hg w4 hbox hb; have n_ := zA4 (below_step zz1 hb) hbox (zz10 : w.heap.size ≤ aE) (zz10 : w.heap.size ≤ aE); clear HB; obtain ⟨HB, aC, GW101, GE101⟩ := n_; clear hb hbox hg))); (try simp only [Act.put, List.setIfInBounds_toArray, List.set_cons_zero, List.set_cons_succ]); go_cut [17] (fun v17 wc => ∃ (kq : Nat) (aU : Bool), v17 = .bool aU ∧ Aside0 (spec_FullPile.j0 kq a1 aU aD aA = some r) ∧ Aside0 (kq ≤ k) ∧ Aside0 (wc.heap[aE]? = some (.cells #[.int .i64 aD, (.slice aH aA.length aG)] 25 (0, 0))) ∧ Aside0 (Below w.heap.size w wc))
 case first =>
  have H := HC3.out; clear HC3; obtain ⟨aZ, A50, H⟩ := zO_ H; (try dsimp only at H); have A5 := zK_ A50; clear A50; by_cases c6 : aZ = true; rotate_left
  ·replace c6 := Bool.eq_false_iff.mpr c6; subst c6; rw [if_neg (show ¬ (false = true) by decide)] at H; have H' := zK_ H; clear H; have fD := zC20 aC; have fC := zC21 aC; have fB := blk_frozen aC.out 0; have fA := blk_frozen aC.out 1; (go_wp2_with (first | ((with_reducible refine gate_callee (f := 55) rfl ?_); refine goesL_ (some 8) rfl rfl Try.func55 (by kernel_rfl) rfl #[.agg #[.int .i64 aD, .slice aH aA.length aG]] rfl zz4 ?_; (with_reducible refine (spec_GraphOk.calls k aD _ _ aA false _ ?side1 ?side2 A5.out).mono ?_); (case side1 => exact zz6); (case side2 => exact bG.out); rintro e w12 ⟨rfl, hb⟩; refine ⟨_, rfl, ?_⟩; have n_ := zA2 (blk_below (g := aE) (o := .cells #[.int .i64 aD, .slice aH aA.length aG] 25 (0, 0)) zz2 hb) (below_step zz0 hb); clear aC HB; obtain ⟨aC, HB⟩ := n_; clear hb))); (go_meet); case rel => exact ⟨_, (true), zz5, H', ⟨by first | omega | exact Nat.le_refl _⟩, ⟨zz2⟩, ⟨zz0⟩⟩
  subst c6; rw [if_pos rfl] at H; obtain ⟨bN, A70, H⟩ := zO_ H; (try dsimp only at H); have A7 := zK_ A70; clear A70; have H' := zK_ H; clear H; have gG := zC20 aC; have gF := zC21 aC; have gC := blk_frozen aC.out 0; have gA := blk_frozen aC.out 1; (go_wp2_with (first | ((with_reducible refine gate_callee (f := 55) rfl ?_); refine goesL_ (some 8) rfl rfl Try.func55 (by kernel_rfl) rfl #[.agg #[.int .i64 aD, .slice aH aA.length aG]] rfl zz4 ?_; (with_reducible refine (spec_GraphOk.calls k aD _ _ aA true _ ?side1 ?side2 A5.out).mono ?_); (case side1 => exact zz6); (case side2 => exact bG.out); rintro e w9 ⟨rfl, hb⟩; refine ⟨_, rfl, ?_⟩; have n_ := zA2 (blk_below (g := aE) (o := .cells #[.int .i64 aD, .slice aH aA.length aG] 25 (0, 0)) zz2 hb) (below_step zz0 hb); clear aC HB; obtain ⟨aC, HB⟩ := n_; clear hb; have cK := zC20 aC; have cJ := zC21 aC; have cI := blk_frozen aC.out 0; have cH := blk_frozen aC.out 1) | (go_at_call 56; (with_reducible refine (spec_l01In.calls a1 0 (wrap64 (aD - 1)) bN _ A7.out).mono ?_); rintro e w' ⟨rfl, ⟨nd, rfl⟩⟩))); (go_meet); case rel => exact ⟨_, (!bN), zz5, H', ⟨by first | omega | exact Nat.le_refl _⟩, ⟨zz2⟩, ⟨zz0⟩⟩
 case rest =>
  clear HC3; (try clear c1); (try clear p2); (try clear c5); (try clear c6); (try clear p6); (try clear c10); (try clear cK); (try clear cJ); (try clear fD); (try clear fC); (try clear gG); (try clear gF); (try clear cI); (try clear cH); (try clear fB); (try clear fA); (try clear gC); (try clear gA); obtain ⟨kq, aU, rfl, HA, HJ2, aC, HB⟩ := hcut
  cases kq with
  | zero => exact absurd HA.out (by simp [spec_FullPile.j0])
  | succ kj2 =>
   have H := HA.out; clear HA; simp only [spec_FullPile.j0] at H; by_cases c13 : aU = true
   ·subst c13; rw [if_pos rfl] at H; obtain rfl := Option.some.inj H; go_wp2; go_ret; exact ⟨_, zz7, zz43, zz0⟩
   replace c13 := Bool.eq_false_iff.mpr c13; subst c13; rw [if_neg (show ¬ (false = true) by decide)] at H; obtain ⟨kO, hy_⟩ : ∃ y_ : List Int, y_ = (([] : List Int)) := ⟨_, rfl⟩; (replace H : (spec_FullPile.l0 kj2 a1 kO 0 aD aA) = some r := zzY); have jT := zK_ hy_; clear hy_; have H' := zK_ H; clear H; (go_wp2_with (first | ((with_reducible refine gate_dst (N := 18) rfl ?_); refine Kd.R_lit (Kd.int .i64) _ 3 ?hg (N := 18) ?hd (xs := ([] : List Int)) (inner := []) (ok := fun _ => True) (okp := fun _ => True) ?hr ?hp (fun _ hk => hk) trivial (Below.refl _ _) (Nat.le_refl _) (by simp) ?_; (case hd => rfl); (case hg => rfl); (case hr => exact zz9); (case hp => exact (Reps.none _ _)); intro v105 w14 ho15 hb hg_ hnew_; clear hg_ hnew_; (first | rw [← jT.out] at ho15 | (simp only [Int.reduceToNat] at ho15; rw [← jT.out] at ho15)); have n_ := zA3 (Kd.R_lower ho15 (below_size zz0)) (blk_below (g := aE) (o := .cells #[.int .i64 aD, .slice aH aA.length aG] 25 (0, 0)) zz2 hb) (below_step zz0 hb); clear aC HB; obtain ⟨gY, aC, HB⟩ := n_; clear hb ho15))); (go_loopg [5, 6] kj2 (fun kq v5 v6 w' => ∃ (bO : List Int) (fF : Int), v6 = .int .i64 fF ∧ Aside0 (spec_FullPile.l0 kq a1 bO fF aD aA = some r) ∧ Aside0 (kq ≤ kj2) ∧ Aside0 (Kd.R (Kd.int .i64) 3 w' w.heap.size (fun _ => True) v5 bO) ∧ Aside0 (w'.heap[aE]? = some (.cells #[.int .i64 aD, (.slice aH aA.length aG)] 25 (0, 0))) ∧ Aside0 (Below w.heap.size w w'))); case atStart => exact ⟨(kO), (0), zz5, H', ⟨Nat.le_refl _⟩, ⟨by (with_reducible repeat (first | apply Kd.R_alloc | apply Kd.R_drewN | apply Kd.R_drew)); exact gY.out⟩, ⟨zz2⟩, ⟨zz0⟩⟩
   case round =>
    clear H'; (try clear c1); (try clear p2); (try clear c5); (try clear c6); (try clear p6); (try clear c10); (try clear c13); (try clear cK); (try clear cJ); (try clear fD); (try clear fC); (try clear gG); (try clear gF); (try clear cI); (try clear cH); (try clear fB); (try clear fA); (try clear gC); (try clear gA); (try clear p2); (try clear p6); obtain ⟨bO, fF, rfl, HA, HK2, bY, aC, HB⟩ := hrel
    cases gk with
    | zero => exact absurd HA.out (by simp [spec_FullPile.l0])
    | succ k2 =>
     have H := HA.out; clear HA; simp only [spec_FullPile.l0] at H; by_cases c16 : fF < aD; rotate_left
     ·rw [if_neg c16] at H; have iJ := decide_eq_false c16; clear c16; obtain rfl := Option.some.inj H; have iT := zC20 aC; have iS := zC21 aC; have iP := blk_frozen aC.out 0; have iO := blk_frozen aC.out 1; go_wp2; go_ret; exact ⟨_, zz7, zz22, zz0⟩
     rw [if_pos c16] at H; have iJ := decide_eq_true c16; clear c16; by_cases c17 : fF = a1
     ·rw [if_pos c17] at H; have jR : (fF == a1) = true := beq_iff_eq.mpr c17; have n9 : (fF != a1) = false := bne_eq_false_iff_eq.mpr c17; clear c17; by_cases c18 : bO.length < 17592186044416; rotate_left
      ·rw [if_neg c18] at H; exact absurd H (by simp)
      rw [if_pos c18] at H; have tX := zK_ c18; clear c18; obtain ⟨i5, hy_⟩ : ∃ y_ : List Int, y_ = (bO ++ [0]) := ⟨_, rfl⟩; (replace H : (spec_FullPile.l0 k2 a1 i5 (wrap64 (fF + 1)) aD aA) = some r := zzY); have kR := zK_ hy_; clear hy_; have H' := zK_ H; clear H; have jL := zC20 aC; have jK := zC21 aC; have jD := blk_frozen aC.out 0; have jC := blk_frozen aC.out 1; (go_wp2_with (first | ((with_reducible refine gate_builtin (b := .append) (xs := #[.tmp 28, .tmp 29]) rfl ?_); at_builtin; refine Kd.R_append (Kd.int .i64) (w0 := w) w.heap.size rfl (.tmp 28) (.tmp 29) 26 3 (.int .i64 0) 8 rfl Try.underlying26 info3 rfl (by decide) (by omega) u5 bO 0 [.int .i64 0] (fun _ => True) (fun _ => False) rfl rfl ?aP (fun _ hk => hk.elim) ?aF ?aO ?aB ?aS ?aL ?_; (case aP => exact rfl); (case aB => exact zz0); (case aF => exact (fun _ _ => trivial)); (case aO => exact zz22); (case aS => exact (below_size zz0)); (case aL => have := tX.out; omega); intro v108 w20 ho hb hg hat; rw [← kR.out] at ho; have n_ := zA3 (blk_grown (g := aE) (o := .cells #[.int .i64 aD, .slice aH aA.length aG] 25 (0, 0)) zz2 hg (Kd.R_ne bY.out aC.out (by decide))) hb ho; clear aC HB bY; obtain ⟨aC, HB, oC⟩ := n_; clear ho hb hg hat))); go_roundg k2; (case measure => have := HJ2.out; have := HK2.out; omega); case rel => exact ⟨(i5), (wrap64 (fF + 1)), zz5, H', ⟨by have := HJ2.out; have := HK2.out; omega⟩, ⟨by (with_reducible repeat (first | apply Kd.R_alloc | apply Kd.R_drewN | apply Kd.R_drew)); exact oC.out⟩, ⟨zz2⟩, ⟨zz0⟩⟩
     rw [if_neg c17] at H; have jR : (fF == a1) = false := beq_eq_false_iff_ne.mpr c17; have n9 : (fF != a1) = true := bne_iff_ne.mpr c17; obtain ⟨kU, A210, H⟩ := zO_ H; (try dsimp only at H); have A21 := zK_ A210; clear A210; by_cases c22 : bO.length < 17592186044416; rotate_left
     ·rw [if_neg c22] at H; exact absurd H (by simp)
     rw [if_pos c22] at H; have tU := zK_ c22; clear c22; obtain ⟨r7, hy_⟩ : ∃ y_ : List Int, y_ = (bO ++ [wrap64 (kU - 1)]) := ⟨_, rfl⟩; (replace H : (spec_FullPile.l0 k2 a1 r7 (wrap64 (fF + 1)) aD aA) = some r := zzY); have tR := zK_ hy_; clear hy_; have H' := zK_ H; clear H; have kJ := zC20 aC; have kI := zC21 aC; have kD := blk_frozen aC.out 0; have kC := blk_frozen aC.out 1; (go_wp2_with (first | ((with_reducible refine gate_callee (f := 73) rfl ?_); refine goesL_ (some 34) rfl rfl Try.func73 (by kernel_rfl) rfl #[.agg #[.int .i64 aD, .slice aH aA.length aG], .int .i64 fF] rfl zz4 ?_; (with_reducible refine (spec_Valence.calls k2 aD _ _ aA fF kU _ ?side1 ?side2 A21.out).mono ?_); (case side1 => exact zz6); (case side2 => exact bG.out); rintro e w24 ⟨rfl, hb⟩; refine ⟨_, rfl, ?_⟩; have n_ := zA3 (Kd.R_below zz22 hb) (blk_below (g := aE) (o := .cells #[.int .i64 aD, .slice aH aA.length aG] 25 (0, 0)) zz2 hb) (below_step zz0 hb); clear bY aC HB; obtain ⟨bY, aC, HB⟩ := n_; clear hb) | ((with_reducible refine gate_builtin (b := .append) (xs := #[.tmp 31, .tmp 36]) rfl ?_); at_builtin; refine Kd.R_append (Kd.int .i64) (w0 := w) w.heap.size rfl (.tmp 31) (.tmp 36) 26 3 (.int .i64 0) 8 rfl Try.underlying26 info3 rfl (by decide) (by omega) u5 bO (wrap64 (kU - 1)) [.int .i64 (wrap64 (kU - 1))] (fun _ => True) (fun _ => False) rfl rfl ?aP (fun _ hk => hk.elim) ?aF ?aO ?aB ?aS ?aL ?_; (case aP => exact rfl); (case aB => exact zz0); (case aF => exact (fun _ _ => trivial)); (case aO => exact zz22); (case aS => exact (below_size zz0)); (case aL => have := tU.out; omega); intro v112 w25 ho hb hg hat; rw [← tR.out] at ho; have n_ := zA3 (blk_grown (g := aE) (o := .cells #[.int .i64 aD, .slice aH aA.length aG] 25 (0, 0)) zz2 hg (Kd.R_ne bY.out aC.out (by decide))) hb ho; clear aC HB bY; obtain ⟨aC, HB, uC⟩ := n_; clear ho hb hg hat))); go_roundg k2; (case measure => have := HJ2.out; have := HK2.out; omega); case rel => exact ⟨(r7), (wrap64 (fF + 1)), zz5, H', ⟨by have := HJ2.out; have := HK2.out; omega⟩, ⟨by (with_reducible repeat (first | apply Kd.R_alloc | apply Kd.R_drewN | apply Kd.R_drew)); exact uC.out⟩, ⟨zz2⟩, ⟨zz0⟩⟩
end Go.Proofs.Ytnbljcgdgblgoaa.P
end

section
namespace Go.Proofs.Ytnbljcgdgblgoaa.P
open Go.RowKit Go.Proofs.YtnbljcgdgblgoaaW.PrintWords Go.Proofs.YtnbljcgdgblgoaaW.PrintLast Go.Proofs.YtnbljcgdgblgoaaW.PrintMore
attribute [local go_sem] max2_int min2_int max_two min_two max_three min_three max_four min_four
set_option linter.unusedVariables false
set_option linter.unusedSimpArgs false
def spec_l11Full.f (k : Nat) (aD : Int) (aA : List (S57)) (l1 : List Int) (a2 : Int) : Option (List Int) := (spec_FullPile.f k aD aA a2).bind fun aZ => ((spec_l07Minus.f k aZ l1).bind fun dE => (if 0 ≤ a2 then (if a2 < (dE.length : Int) then (some (dE.set (a2 : Int).toNat 0)) else (none)) else (none)))
theorem spec_l11Full.mono : ∀ a0 a1 a2 a3 k, LeO (spec_l11Full.f k a0 a1 a2 a3) (spec_l11Full.f (k + 1) a0 a1 a2 a3) := by
 intro a0 a1 a2 a3 k; unfold spec_l11Full.f; repeat' first | (with_reducible apply spec_FullPile.mono) | (with_reducible apply spec_l07Minus.mono) | (with_reducible exact LeO.refl _) | (with_reducible exact LeO.none _) | (with_reducible refine LeO.ite ?_ ?_) | (with_reducible refine LeO.bind ?_ (fun _ => ?_)) | apply spec_FullPile.mono | apply spec_l07Minus.mono | exact LeO.none _ | refine LeO.ite ?_ ?_ | refine LeO.bind ?_ (fun _ => ?_)
theorem spec_l11Full.calls (k : Nat) (aD : Int) (aH : Option Addr) (aG : Nat) (aA : List (S57)) (A1 : Option Addr) (c1 : Nat) (l1 : List Int) (a2 : Int) (r : List Int) (w : World) (hr0_1 : Kd.C k57 w aH aA.length aA) (hc0_1 : aA.length ≤ aG) (hr1 : Kd.C (Kd.int .i64) w A1 l1.length l1) (hc1 : l1.length ≤ c1) (h : spec_l11Full.f k aD aA l1 a2 = some r) :
  Calls Try.prog 67 #[.agg #[.int .i64 aD, .slice aH aA.length aG], .slice A1 l1.length c1, .int .i64 a2] w fun e w' => ∃ v0_ : Value, e = .returned (v0_) ∧ Kd.R (Kd.int .i64) 3 w' w.heap.size (fun _ => True) v0_ r ∧ Below w.heap.size w w' := by
 have hu25 := Try.underlying25; have bL := zK_ hr0_1; have bG := zK_ hc0_1; clear hr0_1 hc0_1; have HR1 := zK_ hr1; have HC1 := zK_ hc1; clear hr1 hc1; have HB := zK_ (Below.refl w.heap.size w); have H : ((spec_FullPile.f k aD aA a2).bind fun aZ => ((spec_l07Minus.f k aZ l1).bind fun dE => (if 0 ≤ a2 then (if a2 < (dE.length : Int) then (some (dE.set (a2 : Int).toNat 0)) else (none)) else (none)))) = some r := h; clear h; obtain ⟨aZ, A40, H⟩ := zO_ H; (try dsimp only at H); have A4 := zK_ A40; clear A40; obtain ⟨dE, A50, H⟩ := zO_ H; (try dsimp only at H); have A5 := zK_ A50; clear A50; by_cases c6 : 0 ≤ a2; rotate_left
 ·rw [if_neg c6] at H; exact absurd H (by simp)
 rw [if_pos c6] at H; have dY := decide_eq_true c6; clear c6; by_cases c7 : a2 < (dE.length : Int); rotate_left
 ·rw [if_neg c7] at H; exact absurd H (by simp)
 rw [if_pos c7] at H; have dK := decide_eq_true c7; clear c7; obtain ⟨oE, hy_⟩ : ∃ y_ : List Int, y_ = (dE.set (a2 : Int).toNat 0) := ⟨_, rfl⟩; (replace H : (some oE) = some r := zzY); have pU := zK_ hy_; clear hy_; obtain rfl := Option.some.inj H; go_enter Try.func67, Try.ntmps67; (go_wp2_with (first | ((with_reducible refine gate_dst (N := 3) rfl ?_); refine box_event ?hg (N := 3) ?hd (cs := #[.int .i64 aD, .slice aH aA.length aG]) (t := 25) ?hr ?_; (case hd => rfl); (case hg => rfl); (case hr => exact zz9); intro aE hg w9 hbox hb; have n_ := zA4 (below_step zz1 hb) hbox (zz10 : w.heap.size ≤ aE) (zz10 : w.heap.size ≤ aE); clear HB; obtain ⟨HB, aC, GW101, GE101⟩ := n_; clear hb hbox hg; have cK := zC20 aC; have cJ := zC21 aC; have cI := blk_frozen aC.out 0; have cH := blk_frozen aC.out 1) | ((with_reducible refine gate_callee (f := 102) rfl ?_); refine goesL_ (some 10) rfl rfl Try.func102 (by kernel_rfl) rfl #[.agg #[.int .i64 aD, .slice aH aA.length aG], .int .i64 a2] rfl zz4 ?_; (with_reducible refine (spec_FullPile.calls k aD _ _ aA a2 aZ _ ?side1 ?side2 A4.out).mono ?_); (case side1 => exact zz6); (case side2 => exact bG.out); rintro e w11 ⟨v103, rfl, ho0, hb⟩; refine ⟨_, rfl, ?_⟩; have n_ := zA3 (Kd.R_lower ho0 (below_size zz0)) (blk_below (g := aE) (o := .cells #[.int .i64 aD, .slice aH aA.length aG] 25 (0, 0)) zz2 hb) (below_step zz0 hb); clear aC HB; obtain ⟨cG, aC, HB⟩ := n_; clear ho0 hb; obtain ⟨Ao12, co12, m9⟩ := Kd.R_slice cG.out; subst m9) | ((with_reducible refine gate_callee (f := 101) rfl ?_); refine goesL_ (some 12) rfl rfl Try.func101 (by kernel_rfl) rfl #[.slice Ao12 aZ.length co12, .slice A1 l1.length c1] rfl zz4 ?_; (with_reducible refine (spec_l07Minus.calls k _ _ aZ _ _ l1 dE _ ?side1 ?side2 ?side3 ?side4 A5.out).mono ?_); (case side1 => repeat (first | exact (Kd.R_reads' cG.out).2.2 | (with_reducible refine Kd.C_alloc ?_ _) | (with_reducible refine Kd.C_drewN ?_ _) | (with_reducible refine Kd.C_drew ?_))); (case side2 => exact (Kd.R_reads' cG.out).2.1); (case side3 => exact zz46); (case side4 => exact HC1.out); rintro e w13 ⟨v106, rfl, ho0, hb⟩; refine ⟨_, rfl, ?_⟩; have n_ := zA4 (Kd.R_elder' zz30 (Kd.R_base ho0) hb) (Kd.R_lower (Kd.R_new' ho0 (Kd.R_lt zz30)) (below_size zz0)) (blk_below (g := aE) (o := .cells #[.int .i64 aD, .slice aH aA.length aG] 25 (0, 0)) zz2 hb) (below_step zz0 hb); clear cG aC HB; obtain ⟨cG, cZ, aC, HB⟩ := n_; clear ho0 hb; have p8 : 0 ≤ (a2 : Int) := of_decide_eq_true zz3; have q8 : (a2 : Int) < ((dE.length : Int) : Int) := of_decide_eq_true zz3; obtain ⟨go8, co8, pD, pA, gl8, cl8, HG8⟩ := Kd.R_form cZ.out (by omega); (first | cases pD | (injection pD with ea_ en_ ec_; (first | subst ea_ | (injection ea_ with ea_; subst ea_)); subst ec_; clear en_)); have rE := zK_ pA; have yU := zK_ HG8; clear pA gl8 HG8; obtain ⟨jZ, mF⟩ := Kd.R_celln 0 cZ.out (a2 : Int) p8 q8; replace p8 := eq_true p8; replace q8 := eq_true q8; have n_ := zK_ (Kd.R_mono (ok' := (fun k_ => some k_ ≠ (.slice Ao12 aZ.length co12 : Value).ownBlock)) cZ.out (fun k_ hk => hk.2)); clear cZ; have cZ := n_; clear n_; obtain ⟨hy14_, hz14_⟩ := Kd.R_celln 0 cZ.out (a2 : Int) (of_decide_eq_true zz3) (of_decide_eq_true zz3); have rX := Kd.R_putg cZ.out (a2 : Int) 0) | ((with_reducible refine gate_store (t := 3) (p := 15) rfl ?_); refine store_event (t := 3) (p := 15) (v := ?vo_w15) (w1 := (w13.setCell ⟨go8, (a2 : Int).toNat, none⟩ (.int .i64 0))) ?hg ?ho ?hn ?hr ?_; (case ho => rfl); (case hg => rfl); (case hn => rfl); (case hr => exact zz9); intro w15 hw; have hg : w13.grownBy w15 (some go8) := (by rw [hw]; exact rX.2); have hp_ : Kd.R (Kd.int .i64) 3 w15 w.heap.size (fun k_ => some k_ ≠ (.slice Ao12 aZ.length co12 : Value).ownBlock) (.slice (some ⟨go8, 0, none⟩) dE.length co8) oE := (by rw [hw, pU.out]; exact rX.1); clear rX; have n_ := zA4 (blk_grown (g := aE) (o := .cells #[.int .i64 aD, .slice aH aA.length aG] 25 (0, 0)) zz2 hg (Kd.R_ne cZ.out aC.out (by decide))) (Kd.R_after (v := (.slice (some ⟨go8, 0, none⟩) dE.length co8)) (v1 := (.slice (some ⟨go8, 0, none⟩) dE.length co8)) (ok := (fun _ => True)) zz30 hg (.inl rfl)) hp_ (by rw [hw]; exact below_set (HB.out) rE.out : Below w.heap.size w w15); clear aC cG cZ HB; obtain ⟨aC, cG, cZ, HB⟩ := n_; clear hg hw hp_))); go_ret; exact ⟨_, zz7, by (with_reducible repeat (first | apply Kd.R_alloc | apply Kd.R_drewN | apply Kd.R_drew)); exact Kd.R_mono cZ.out (fun _ hk => trivial), zz0⟩
def spec_RecurrentPiles.rows (k : Nat) (a0 : Int) (es : List S57) (q : Int) (L : List (List Int)) : List (List Int) := L.map fun x => (spec_l11Full.f k a0 es x q).getD []
abbrev spec_RecurrentPiles.ok (k : Nat) (a0 : Int) (es : List S57) (q : Int) (L : List (List Int)) : Prop := (∀ x ∈ L, (spec_l11Full.f k a0 es x q).isSome = true) ∧ L.length ≤ 1000000
theorem spec_RecurrentPiles.rows_up {k : Nat} {a0 : Int} {es : List S57} {q : Int} {L : List (List Int)} (h : spec_RecurrentPiles.ok k a0 es q L) : spec_RecurrentPiles.rows (k + 1) a0 es q L = spec_RecurrentPiles.rows k a0 es q L := by
 unfold spec_RecurrentPiles.rows; (refine List.map_congr_left fun x hx => ?_); obtain ⟨b, hb⟩ := Option.isSome_iff_exists.1 (h.1 x hx); rw [hb, spec_l11Full.mono _ _ _ _ k _ hb]
theorem spec_RecurrentPiles.ok_up {k : Nat} {a0 : Int} {es : List S57} {q : Int} {L : List (List Int)} (h : spec_RecurrentPiles.ok k a0 es q L) : spec_RecurrentPiles.ok (k + 1) a0 es q L := by
 refine ⟨fun x hx => ?_, h.2⟩; obtain ⟨b, hb⟩ := Option.isSome_iff_exists.1 (h.1 x hx); rw [spec_l11Full.mono _ _ _ _ k _ hb]; rfl
def spec_RecurrentPiles.f (k : Nat) (a0 : Int) (es : List S57) (q : Int) : Option (List (List Int) × Bool) :=
 (spec_GraphOk.f k a0 es).bind fun t => if t = true then (spec_l01In.f q 0 (wrap64 (a0 - 1))).bind fun u => if u = true then (spec_GroupOrder.f k a0 es).bind fun c => if c ≤ 400 then (spec_l11All.f k a0 es q).bind fun L => if spec_RecurrentPiles.ok k a0 es q L then (spec_l09Sort.f k (spec_RecurrentPiles.rows k a0 es q L)).bind fun r => some (r, true) else none else some ([], false) else some ([], false) else some ([], false)
theorem spec_RecurrentPiles.mono : ∀ a0 a1 a2 k, LeO (spec_RecurrentPiles.f k a0 a1 a2) (spec_RecurrentPiles.f (k + 1) a0 a1 a2) := by
 intro a0 a1 a2 k; unfold spec_RecurrentPiles.f; (refine LeO.bind (spec_GraphOk.mono _ _ k) fun t => LeO.ite (LeO.bind (LeO.refl _) fun u => LeO.ite (LeO.bind (spec_GroupOrder.mono _ _ k) fun c => LeO.ite (LeO.bind (spec_l11All.mono _ _ _ k) fun L => ?_) (LeO.refl _)) (LeO.refl _)) (LeO.refl _)); intro r h; (split at h); (case isFalse => cases h); rename_i hc; rw [if_pos (spec_RecurrentPiles.ok_up hc), spec_RecurrentPiles.rows_up hc]; obtain ⟨s, hs, h⟩ := Option.bind_eq_some_iff.mp h; rw [spec_l09Sort.mono _ k _ hs]; exact h
theorem spec_RecurrentPiles.calls (k : Nat) (aD : Int) (aH : Option Addr) (aG : Nat) (aA : List S57) (a1 : Int) (r1 : List (List Int)) (r2 : Bool) (w : World) (hr0_1 : Kd.C k57 w aH aA.length aA) (hc0_1 : aA.length ≤ aG) (h : spec_RecurrentPiles.f k aD aA a1 = some (r1, r2)) :
  Calls Try.prog 26 #[.agg #[.int .i64 aD, .slice aH aA.length aG], .int .i64 a1] w fun e w' => ∃ v0_ : Value, e = .returned (.tuple #[v0_, .bool r2]) ∧ Kd.S (Kd.slice 3 (Kd.int .i64)) 26 w' w.heap.size (fun _ => True) v0_ r1 ∧ Below w.heap.size w w' := by
 have hu25 := Try.underlying25; have HE := zK_ hr0_1; have HC := zK_ hc0_1; clear hr0_1 hc0_1; unfold spec_RecurrentPiles.f at h; replace h := zO_ h; obtain ⟨t, ht, h⟩ := h; have HTT := zK_ ht; clear ht
 cases t with
 | false =>
  rw [if_neg (by simp)] at h; obtain ⟨rfl, rfl⟩ := Prod.mk.inj (Option.some.inj h); clear h; go_enter Try.func26, Try.ntmps26; (go_wp2_with (first | ((with_reducible refine gate_dst (N := 2) rfl ?_); refine box_event ?hg (N := 2) ?hd (cs := #[.int .i64 aD, .slice aH aA.length aG]) (t := 25) ?hr ?_; (case hd => rfl); (case hg => rfl); (case hr => exact zz9); intro gg hg w1 hbox hb; have BG1 := zK_ hbox; have HB1 := zK_ hb; have hz0 : w1.cell? ⟨gg, 0, none⟩ = some (.int .i64 aD) := (blk_cell BG1.out 0).trans rfl; have hz1 : w1.cell? ⟨gg, 1, none⟩ = some (.slice aH aA.length aG) := (blk_cell BG1.out 1).trans rfl; clear hg hbox hb))); refine (spec_GraphOk.calls k aD _ _ aA false _ (Kd.C_below HE.out HB1.out) HC.out HTT.out).mono ?_; rintro e w2 ⟨rfl, hb⟩; have BG2 := zK_ (blk_below BG1.out hb); have HB2 := zK_ (below_step HB1.out hb); clear hb hz0 hz1 BG1; go_wp2; (go_ret2); exact ⟨_, rfl, Kd.S_nil _ _ _ _ _, HB2.out⟩
 | true =>
  rw [if_pos rfl] at h; replace h := zO_ h; obtain ⟨u, hu, h⟩ := h; have HUU := zK_ hu; clear hu
  cases u with
  | false =>
   rw [if_neg (by simp)] at h; obtain ⟨rfl, rfl⟩ := Prod.mk.inj (Option.some.inj h); clear h; go_enter Try.func26, Try.ntmps26; (go_wp2_with (first | ((with_reducible refine gate_dst (N := 2) rfl ?_); refine box_event ?hg (N := 2) ?hd (cs := #[.int .i64 aD, .slice aH aA.length aG]) (t := 25) ?hr ?_; (case hd => rfl); (case hg => rfl); (case hr => exact zz9); intro gg hg w1 hbox hb; have BG1 := zK_ hbox; have HB1 := zK_ hb; have hz0 : w1.cell? ⟨gg, 0, none⟩ = some (.int .i64 aD) := (blk_cell BG1.out 0).trans rfl; have hz1 : w1.cell? ⟨gg, 1, none⟩ = some (.slice aH aA.length aG) := (blk_cell BG1.out 1).trans rfl; clear hg hbox hb))); refine (spec_GraphOk.calls k aD _ _ aA true _ (Kd.C_below HE.out HB1.out) HC.out HTT.out).mono ?_; rintro e w2 ⟨rfl, hb⟩; have BG2 := zK_ (blk_below BG1.out hb); have HB2 := zK_ (below_step HB1.out hb); clear hb hz0 hz1 BG1; have hz0 : w2.cell? ⟨gg, 0, none⟩ = some (.int .i64 aD) := (blk_cell BG2.out 0).trans rfl; have hz1 : w2.cell? ⟨gg, 1, none⟩ = some (.slice aH aA.length aG) := (blk_cell BG2.out 1).trans rfl; (go_wp2_with fail); refine (spec_l01In.calls _ _ _ false _ HUU.out).mono ?_; rintro e w3 ⟨rfl, hd⟩; have hb := Drawn0.below hd; have BG3 := zK_ (blk_below BG2.out hb); have HB3 := zK_ (below_step HB2.out hb); clear hb hd hz0 hz1 BG2; go_wp2; (go_ret2); exact ⟨_, rfl, Kd.S_nil _ _ _ _ _, HB3.out⟩
  | true =>
   rw [if_pos rfl] at h; replace h := zO_ h; obtain ⟨c, hc, h⟩ := h; have HCT := zK_ hc; clear hc; by_cases hle : c ≤ 400; rotate_left
   ·rw [if_neg hle] at h; obtain ⟨rfl, rfl⟩ := Prod.mk.inj (Option.some.inj h); clear h; have d0 : decide (c > 400) = true := decide_eq_true (by omega); have d1 : decide (400 < c) = true := decide_eq_true (by omega); go_enter Try.func26, Try.ntmps26; (go_wp2_with (first | ((with_reducible refine gate_dst (N := 2) rfl ?_); refine box_event ?hg (N := 2) ?hd (cs := #[.int .i64 aD, .slice aH aA.length aG]) (t := 25) ?hr ?_; (case hd => rfl); (case hg => rfl); (case hr => exact zz9); intro gg hg w1 hbox hb; have BG1 := zK_ hbox; have HB1 := zK_ hb; have hz0 : w1.cell? ⟨gg, 0, none⟩ = some (.int .i64 aD) := (blk_cell BG1.out 0).trans rfl; have hz1 : w1.cell? ⟨gg, 1, none⟩ = some (.slice aH aA.length aG) := (blk_cell BG1.out 1).trans rfl; clear hg hbox hb))); refine (spec_GraphOk.calls k aD _ _ aA true _ (Kd.C_below HE.out HB1.out) HC.out HTT.out).mono ?_; rintro e w2 ⟨rfl, hb⟩; have BG2 := zK_ (blk_below BG1.out hb); have HB2 := zK_ (below_step HB1.out hb); clear hb hz0 hz1 BG1; have hz0 : w2.cell? ⟨gg, 0, none⟩ = some (.int .i64 aD) := (blk_cell BG2.out 0).trans rfl; have hz1 : w2.cell? ⟨gg, 1, none⟩ = some (.slice aH aA.length aG) := (blk_cell BG2.out 1).trans rfl; (go_wp2_with fail); refine (spec_l01In.calls _ _ _ true _ HUU.out).mono ?_; rintro e w3 ⟨rfl, hd⟩; have hb := Drawn0.below hd; have BG3 := zK_ (blk_below BG2.out hb); have HB3 := zK_ (below_step HB2.out hb); clear hb hd hz0 hz1 BG2; have hz0 : w3.cell? ⟨gg, 0, none⟩ = some (.int .i64 aD) := (blk_cell BG3.out 0).trans rfl; have hz1 : w3.cell? ⟨gg, 1, none⟩ = some (.slice aH aA.length aG) := (blk_cell BG3.out 1).trans rfl; (go_wp2_with fail); refine (spec_GroupOrder.calls k aD _ _ aA c _ (Kd.C_below HE.out HB3.out) HC.out HCT.out).mono ?_; rintro e w4 ⟨rfl, hb⟩; have BG4 := zK_ (blk_below BG3.out hb); have HB4 := zK_ (below_step HB3.out hb); clear hb hz0 hz1 BG3; go_wp2; (go_ret2); exact ⟨_, rfl, Kd.S_nil _ _ _ _ _, HB4.out⟩
   rw [if_pos hle] at h; replace h := zO_ h; obtain ⟨L, hL, h⟩ := h; (split at h); (case isFalse => cases h); rename_i hok; replace h := zO_ h; obtain ⟨r, hr, h⟩ := h; obtain ⟨rfl, rfl⟩ := Prod.mk.inj (Option.some.inj h); clear h; obtain ⟨hro, hLl⟩ := hok; unfold spec_l11All.f at hL; (split at hL); (case isFalse => cases hL); rename_i hokL; obtain ⟨⟨⟨hn0, hn6⟩, hV⟩, hbn⟩ := hokL; obtain ⟨n, rfl⟩ := Int.eq_ofNat_of_zero_le hn0; unfold spec_l11All.ok1 at hbn; rw [Int.toNat_natCast] at hV hbn hL; have hLe := Option.some.inj hL; have HLE := zK_ hLe; have HV := zK_ hV; have HBN := zK_ hbn; have HN := zK_ (show n ≤ 6 from by omega); have HRO := zK_ hro; have HLn := zK_ hLl; have HSO := zK_ hr; (have hnb : (L.length : Int) ≤ 1000000 := by omega); have qH : (n : Int) ≤ 6 := hn6; have d0 : decide (c > 400) = false := decide_eq_false (by omega); have d1 : decide (400 < c) = false := decide_eq_false (by omega); have HUU := zK_ (show spec_l01In.f a1 0 ((n : Int) - 1) = some true from by have h_ := HUU.out; rw [show wrap64 ((n : Int) - 1) = (n : Int) - 1 from by unfold wrap64; omega] at h_; exact h_); clear hro hLl hL hle hr hn0 hn6 hV hbn hLe; go_enter Try.func26, Try.ntmps26; (go_wp2_with (first | ((with_reducible refine gate_dst (N := 2) rfl ?_); refine box_event ?hg (N := 2) ?hd (cs := #[.int .i64 (n : Int), .slice aH aA.length aG]) (t := 25) ?hr ?_; (case hd => rfl); (case hg => rfl); (case hr => exact zz9); intro gg hg w1 hbox hb; have BG1 := zK_ hbox; have HB1 := zK_ hb; have hz0 : w1.cell? ⟨gg, 0, none⟩ = some (.int .i64 (n : Int)) := (blk_cell BG1.out 0).trans rfl; have hz1 : w1.cell? ⟨gg, 1, none⟩ = some (.slice aH aA.length aG) := (blk_cell BG1.out 1).trans rfl; clear hg hbox hb))); refine (spec_GraphOk.calls k (n : Int) _ _ aA true _ (Kd.C_below HE.out HB1.out) HC.out HTT.out).mono ?_; rintro e w2 ⟨rfl, hb⟩; have BG2 := zK_ (blk_below BG1.out hb); have HB2 := zK_ (below_step HB1.out hb); clear hb hz0 hz1 BG1; have hz0 : w2.cell? ⟨gg, 0, none⟩ = some (.int .i64 (n : Int)) := (blk_cell BG2.out 0).trans rfl; have hz1 : w2.cell? ⟨gg, 1, none⟩ = some (.slice aH aA.length aG) := (blk_cell BG2.out 1).trans rfl; (go_wp2_with fail); refine (spec_l01In.calls _ _ _ true _ HUU.out).mono ?_; rintro e w3 ⟨rfl, hd⟩; have hb := Drawn0.below hd; have BG3 := zK_ (blk_below BG2.out hb); have HB3 := zK_ (below_step HB2.out hb); clear hb hd hz0 hz1 BG2; have hz0 : w3.cell? ⟨gg, 0, none⟩ = some (.int .i64 (n : Int)) := (blk_cell BG3.out 0).trans rfl; have hz1 : w3.cell? ⟨gg, 1, none⟩ = some (.slice aH aA.length aG) := (blk_cell BG3.out 1).trans rfl; (go_wp2_with fail); refine (spec_GroupOrder.calls k (n : Int) _ _ aA c _ (Kd.C_below HE.out HB3.out) HC.out HCT.out).mono ?_; rintro e w4 ⟨rfl, hb⟩; have BG4 := zK_ (blk_below BG3.out hb); have HB4 := zK_ (below_step HB3.out hb); clear hb hz0 hz1 BG3; have hz0 : w4.cell? ⟨gg, 0, none⟩ = some (.int .i64 (n : Int)) := (blk_cell BG4.out 0).trans rfl; have hz1 : w4.cell? ⟨gg, 1, none⟩ = some (.slice aH aA.length aG) := (blk_cell BG4.out 1).trans rfl; (go_wp2_with (first | ((with_reducible refine gate_dst (N := 25) rfl ?_); refine Kd.S_lit (w0 := w4) (Kd.slice 3 (Kd.int .i64)) w4.heap.size 26 ?hg (N := 25) ?hd (xs := ([] : List (List Int))) (inner := []) (ok := fun _ => True) (okp := fun _ => True) ?hr ?hp (fun _ hk => hk) trivial (Below.refl _ _) (Nat.le_refl _) (by simp) ?_; (case hd => rfl); (case hg => rfl); (case hr => exact zz9); (case hp => exact (Reps.none _ _)); intro v25 w5 ho hb hg_ hnew_; have HS5 := zK_ (Kd.S_mono (Kd.S_bound ho) (ok' := fun k_ => k_ < w5.heap.size) fun k_ hk => hk.2.2.1); have HB5 := zK_ hb; have BG5 := zK_ (blk_below BG4.out hb); have hy0 : w5.cell? ⟨gg, 0, none⟩ = some (.int .i64 (n : Int)) := (blk_cell BG5.out 0).trans rfl; have hy1 : w5.cell? ⟨gg, 1, none⟩ = some (.slice aH aA.length aG) := (blk_cell BG5.out 1).trans rfl; clear ho hb hg_ hnew_ hz0 hz1) | ((with_reducible refine gate_dst (N := 28) rfl ?_); refine Kd.R_lit (w0 := w5) (Kd.int .i64) w5.heap.size 3 ?hg (N := 28) ?hd (xs := ([] : List Int)) (inner := []) (ok := fun _ => True) (okp := fun _ => True) ?hr ?hp (fun _ hk => hk) trivial (Below.refl _ _) (Nat.le_refl _) (by simp) ?_; (case hd => rfl); (case hg => rfl); (case hr => exact zz9); (case hp => exact (Reps.none _ _)); intro v28 w6 ho hb hg_ hnew_; obtain ⟨AP, cP, eP⟩ := Kd.R_slice ho; subst eP; have t8 := zK_ (Kd.R_mono (Kd.R_bound ho) (ok' := fun k_ => w5.heap.size ≤ k_ ∧ k_ < w6.heap.size) fun k_ hk => ⟨hk.2.1, hk.2.2.1⟩); have HB6 := zK_ hb; clear ho hb hg_ hnew_))); have HB56 := zK_ (below_step HB5.out HB6.out); have hpick := spec_l11All.pick k n a1 aH aG aA w4 HN.out (Kd.C_below HE.out HB4.out) HC.out HV.out n [] (fun k_ => w5.heap.size ≤ k_ ∧ k_ < w6.heap.size) (fun k_ => w6.heap.size ≤ k_) AP cP (.slice none 0 0) [] w6 (by simp) HBN.out (Kd.R_lower t8.out HB5.out.size) (fun k_ h1 h2 => by have h3 := h1.2; omega) (fun k_ h => h) (Kd.S_nil _ _ _ _ _) HB56.out (by show ([] : List (List Int)).length + (Cf.dfsB (spec_l11All.cnt k (n : Int) aA a1) n 0 []).length ≤ _; rw [Cf.dfs_box, List.length_nil]; have := Cf.boxL_len (c := (spec_l11All.cnt k (n : Int) aA a1)) (b := 24) (v := n) (fun u hu => by unfold spec_l11All.cnt; have := HV.out u hu; unfold mx; split; omega; split <;> omega); have := Nat.pow_le_pow_right (n := 24) (by omega) HN.out; omega); rw [List.nil_append, show ((([] : List Int).length : Nat)) = 0 from rfl, HLE.out] at hpick; refine hpick.mono ?_; rintro e w7 ⟨⟨v7, rfl, hS7⟩, hB7, hK7⟩; obtain ⟨A, cA, eA⟩ := Kd.S_slice hS7; subst eA; have HSL := zK_ (Kd.S_mono (Kd.S_bound hS7) (ok' := fun k_ => w5.heap.size ≤ k_ ∧ k_ < w7.heap.size) fun k_ hk => ⟨by rcases hk.1 with h | h; have := HB6.out.size; omega; exact h.1, hk.2.2.1⟩); have HSO7 := zK_ (Kd.S_mono (Kd.S_kept (Kd.S_below HS5.out HB6.out) hK7 fun k_ h1 h2 => by have h3 : w6.heap.size ≤ k_ := h2; have h4 : k_ < w5.heap.size := h1; have := HB6.out.size; omega) (ok' := fun k_ => k_ < w5.heap.size ∨ w7.heap.size ≤ k_) fun k_ h => Or.inl h); have HB7 := zK_ hB7; have HZ57 := zK_ (show w5.heap.size ≤ w7.heap.size from Nat.le_trans HB6.out.size hK7.1); clear hS7 hB7 hK7 hpick hy0 hy1 BG5 t8; (try go_wp2); (go_loopw [6, 31] (fun v6 v31 wr => ∃ i : Nat, v31 = .int .i64 (i : Int) ∧ Aside0 (i ≤ L.length ∧ w7.heap.size ≤ wr.heap.size) ∧ Aside0 (Below w4.heap.size w4 wr) ∧ Aside0 (Kd.S (Kd.slice 3 (Kd.int .i64)) 26 wr w4.heap.size (fun k_ => w5.heap.size ≤ k_ ∧ k_ < w7.heap.size) (.slice A L.length cA) L) ∧ Aside0 (Kd.S (Kd.slice 3 (Kd.int .i64)) 26 wr w4.heap.size (fun k_ => k_ < w5.heap.size ∨ w7.heap.size ≤ k_) v6 (spec_RecurrentPiles.rows k (n : Int) aA a1 (L.take i)))) (fun _ v _ => L.length - (intOf v).toNat)); case atStart => exact ⟨0, rfl, ⟨Nat.zero_le _, Nat.le_refl _⟩, HB7, HSL, HSO7⟩
   case round =>
    clear HSL HSO7 HB7; obtain ⟨i, rfl, HI, HBr, HLr, HSr⟩ := hrel; by_cases hlt : i < L.length; rotate_left
    ·have c0_ : decide ((i : Int) < (L.length : Int)) = false := decide_eq_false (by omega); have c1_ : decide (i < L.length) = false := decide_eq_false hlt; (have hi : i = L.length := by have := HI.out; omega); subst hi; clear hlt; have hS := HSr.out; rw [List.take_length] at hS; have HS8 := zK_ hS; clear hS; (go_wp2_with fail); refine (spec_l09Sort.callsS k _ _ _ r w4 _ HBr.out HS8.out HSO.out).mono ?_; rintro e w9 ⟨v9, rfl, hS9, hb⟩; have HS9 := zK_ hS9; have HB9 := zK_ (below_step HBr.out hb); clear hS9 hb; go_wp2; (go_ret2); exact ⟨_, rfl, Kd.S_mono (Kd.S_lower HS9.out HB4.out.size) (fun _ _ => trivial), below_step HB4.out HB9.out⟩
    have c0_ : decide ((i : Int) < (L.length : Int)) = true := decide_eq_true (by omega); have c1_ : decide (i < L.length) = true := decide_eq_true hlt; (have p1 : (0 : Int) ≤ (i : Int) := by omega); (have p2 : (i : Int) < (L.length : Int) := by omega); (have hib : (i : Int) ≤ 1000000 := by omega); obtain ⟨x, hxi⟩ : ∃ x, L[i]? = some x := ⟨_, List.getElem?_eq_getElem hlt⟩; (have hx : rd_L3 L (i : Int) = x := by unfold rd_L3; rw [Int.toNat_natCast, List.getD_eq_getElem?_getD, hxi]; rfl); obtain ⟨gL, _, _, eg, _, _, _⟩ := at_L3 (Kd.S_reads' HLr.out).2.2 (i : Int) p1 p2; subst eg; obtain ⟨cc, _, hM, hcell⟩ := Kd.S_get HLr.out ([] : List Int) (i : Int) p1 p2; obtain ⟨vx, hvx, hRx⟩ := hM; subst hvx; replace hcell := hcell 0 vx rfl; rw [show (L.getD ((i : Int)).toNat []) = x from hx] at hRx; obtain ⟨Ai, ci, ei⟩ := Kd.R_slice hRx; subst ei; rw [Int.toNat_natCast, show i * (Kd.slice 3 (Kd.int .i64)).sz + 0 = i from Nat.mul_one i] at hcell; have HRi := zK_ (Kd.R_reads' hRx); obtain ⟨row, hrow⟩ := Option.isSome_iff_exists.1 (HRO.out x (List.mem_of_getElem? hxi)); have HROW := zK_ hrow; have HLT := zK_ hlt; have HXI := zK_ hxi; have HOL := zK_ (show (spec_RecurrentPiles.rows k (n : Int) aA a1 (L.take i)).length ≤ 1000000 from by unfold spec_RecurrentPiles.rows; rw [List.length_map, List.length_take]; have := HLn.out; omega); have BGr := zK_ (blk_below BG4.out HBr.out); have hz0 : wr.cell? ⟨gg, 0, none⟩ = some (.int .i64 (n : Int)) := (blk_cell BGr.out 0).trans rfl; have hz1 : wr.cell? ⟨gg, 1, none⟩ = some (.slice aH aA.length aG) := (blk_cell BGr.out 1).trans rfl; clear hxi hlt hx hRx hrow; (go_wp2_with fail); refine (spec_l11Full.calls k (n : Int) _ _ aA _ _ x a1 row _ (Kd.C_below HE.out (below_step HB4.out HBr.out)) HC.out HRi.out.2.2 HRi.out.2.1 HROW.out).mono ?_; rintro e w8 ⟨v8, rfl, hP, hb⟩; obtain ⟨AP, cP, eP⟩ := Kd.R_slice hP; subst eP; have t6 := zK_ (Kd.R_mono (Kd.R_bound hP) (ok' := fun k_ => wr.heap.size ≤ k_) fun k_ hk => hk.2.1); have HB8 := zK_ hb; clear hP hb hz0 hz1; (go_wp2_with (first | ((with_reducible refine gate_builtin (b := .append) (xs := #[.tmp 35, .tmp 40]) rfl ?_); at_builtin; refine Kd.S_append (Kd.slice 3 (Kd.int .i64)) (w0 := w4) w4.heap.size rfl (.tmp 35) (.tmp 40) 34 26 (.slice none 0 0) 24 rfl Try.underlying34 info26 rfl (by decide) (by omega) u6 (spec_RecurrentPiles.rows k (n : Int) aA a1 (L.take i)) row [.slice AP row.length cP] (fun k_ => k_ < w5.heap.size ∨ w7.heap.size ≤ k_) (fun k_ => wr.heap.size ≤ k_) rfl rfl (Kd.M_row (Kd.R_lower t6.out (below_size HBr.out))) (fun k_ hk => ⟨Or.inr (by have := HI.out; omega), fun e => by have := Kd.S_lt HSr.out k_ e.symm; omega⟩) (fun k_ hk => Or.inr (by have := HI.out; have := HB8.out.size; omega)) (Kd.S_mono (Kd.S_below (Kd.S_bound HSr.out) HB8.out) fun k_ hk => ⟨hk.1, fun h => by have := hk.2.2.1; omega⟩) (below_step HBr.out HB8.out) (below_size (below_step HBr.out HB8.out)) (by have := HOL.out; omega) ?_; intro vE wE ho hb hg hat; have HOE := zK_ ho; have HBE := zK_ hb; have HLE2 := zK_ (Kd.S_grown (Kd.S_below (Kd.S_bound HLr.out) HB8.out) hg fun k_ hk e => by have := HSr.out.choose_spec.1 k_ e.symm; have h2 := hk.1; omega); have HZE := zK_ hg.size; clear ho hb hg hat))); go_roundw
    case rel =>
     refine ⟨i + 1, by go_num, ⟨HLT.out, by have := HB8.out.size; have := HZE.out; have := HI.out; omega⟩, HBE, ⟨Kd.S_mono HLE2.out fun k_ hk => hk.1⟩, ⟨?_⟩⟩; unfold spec_RecurrentPiles.rows; rw [List.take_add_one, HXI.out, List.map_append, show (Option.toList (some x)).map (fun x => (spec_l11Full.f k (n : Int) aA x a1).getD []) = [row] from by show [(spec_l11Full.f k (n : Int) aA x a1).getD []] = _; rw [HROW.out]; rfl]; exact HOE.out
    case measure =>
     have := HLT.out; (simp [intOf]); omega
def impl_within.f (a0 : Int) (a1 : Int) (a2 : Int) : Option (Bool) := if a0 ≥ a1 then (some (decide (a0 ≤ a2))) else (some false)
theorem impl_within.calls (a0 : Int) (a1 : Int) (a2 : Int) (r : Bool) (w : World) (h : impl_within.f a0 a1 a2 = some r) :
  Calls Try.prog 39 #[.int .i64 a0, .int .i64 a1, .int .i64 a2] w fun e w' => e = .returned (.bool r) ∧ Drawn0 w w' := by
 have H : (if a0 ≥ a1 then (some (decide (a0 ≤ a2))) else (some false)) = some r := h; clear h; by_cases c4 : a0 ≥ a1
 ·rw [if_pos c4] at H; have dB : decide (a1 ≤ a0) = true := decide_eq_true c4; clear c4; obtain rfl := Option.some.inj H; go_enter Try.func39, Try.ntmps39; go_wp2; go_ret; exact ⟨zz5, by repeat (first | exact Drawn0.refl _ | apply Drawn0.step)⟩
 rw [if_neg c4] at H; have dB : decide (a1 ≤ a0) = false := decide_eq_false c4; clear c4; obtain rfl := Option.some.inj H; go_enter Try.func39, Try.ntmps39; go_wp2; go_ret; exact ⟨zz5, by repeat (first | exact Drawn0.refl _ | apply Drawn0.step)⟩
mutual
def impl_connected.l0 : Nat → Int → List (S57) → Int → Int → Int → Option (Bool)
 | 0, _, _, _, _, _ => none
 | k + 1, x0, x1, x5, x8, x9 => if x9 < x8 then (impl_connected.l1 k x0 x1 x5 x8 x9 x1 (x1.length : Int) 0) else (if 0 ≤ x0 then (some (x5 == (wrap64 ((shl .i64 1 x0) - 1)))) else (none))
def impl_connected.l1 : Nat → Int → List (S57) → Int → Int → Int → List (S57) → Int → Int → Option (Bool)
 | 0, _, _, _, _, _, _, _, _ => none
 | k + 1, x0, x1, x5, x8, x9, eR, jY, i4 => if i4 < jY then (if 0 ≤ i4 then (if i4 < (eR.length : Int) then (if 0 ≤ ((rd_T57 eR i4).f0) then (if (Go.bits .and .i64 (shr .i64 x5 ((rd_T57 eR i4).f0)) 1) = 1 then (if 0 ≤ ((rd_T57 eR i4).f1) then (impl_connected.l1 k x0 x1 (Go.bits .or .i64 x5 (Go.bits .or .i64 (shl .i64 1 ((rd_T57 eR i4).f0)) (shl .i64 1 ((rd_T57 eR i4).f1)))) x8 x9 eR jY (wrap64 (i4 + 1))) else (none)) else (if 0 ≤ ((rd_T57 eR i4).f1) then (if (Go.bits .and .i64 (shr .i64 x5 ((rd_T57 eR i4).f1)) 1) = 1 then (impl_connected.l1 k x0 x1 (Go.bits .or .i64 x5 (Go.bits .or .i64 (shl .i64 1 ((rd_T57 eR i4).f0)) (shl .i64 1 ((rd_T57 eR i4).f1)))) x8 x9 eR jY (wrap64 (i4 + 1))) else (impl_connected.l1 k x0 x1 x5 x8 x9 eR jY (wrap64 (i4 + 1)))) else (none))) else (none)) else (none)) else (none)) else (impl_connected.l0 k x0 x1 x5 x8 (wrap64 (x9 + 1)))
end
def impl_connected.f (k : Nat) (a0 : Int) (l1 : List (S57)) : Option (Bool) := impl_connected.l0 k a0 l1 1 a0 0
theorem impl_connected.mono_l : ∀ k, (∀ y0 y1 y2 y3 y4, LeO (impl_connected.l0 k y0 y1 y2 y3 y4) (impl_connected.l0 (k + 1) y0 y1 y2 y3 y4)) ∧ (∀ y0 y1 y2 y3 y4 y5 y6 y7, LeO (impl_connected.l1 k y0 y1 y2 y3 y4 y5 y6 y7) (impl_connected.l1 (k + 1) y0 y1 y2 y3 y4 y5 y6 y7))
 | 0 => ⟨fun _ _ _ _ _ r h => by simp [impl_connected.l0] at h, fun _ _ _ _ _ _ _ _ r h => by simp [impl_connected.l1] at h⟩
 | k + 1 => by
  obtain ⟨ih0, ih1⟩ := impl_connected.mono_l k
  refine ⟨?_, ?_⟩
  ·intro y0 y1 y2 y3 y4
   unfold impl_connected.l0
   exact zm1
  ·intro y0 y1 y2 y3 y4 y5 y6 y7
   unfold impl_connected.l1
   exact zm1
theorem impl_connected.mono : ∀ a0 a1 k, LeO (impl_connected.f k a0 a1) (impl_connected.f (k + 1) a0 a1) := by
 intro a0 a1 k; obtain ⟨ih0, ih1⟩ := impl_connected.mono_l k; unfold impl_connected.f; exact zm1
theorem impl_connected.calls (k : Nat) (a0 : Int) (A1 : Option Addr) (c1 : Nat) (l1 : List (S57)) (r : Bool) (w : World) (hr1 : Kd.C k57 w A1 l1.length l1) (hc1 : l1.length ≤ c1) (h : impl_connected.f k a0 l1 = some r) :
  Calls Try.prog 52 #[.int .i64 a0, .slice A1 l1.length c1] w fun e w' => e = .returned (.bool r) ∧ Below w.heap.size w w' := by
 have hu57 := Try.underlying57; have HR1 := zK_ hr1; have HC1 := zK_ hc1; clear hr1 hc1; have HB := zK_ (Below.refl w.heap.size w); have H : (impl_connected.l0 k a0 l1 1 a0 0) = some r := h; clear h; have H' := zK_ H; clear H; go_enter Try.func52, Try.ntmps52; go_wp2; (repeat (go_quiet (fail); try go_wp2)); (go_loopg [5, 9] k (fun kq v5 v9 w' => ∃ (aN : Int) (bH : Int), v5 = .int .i64 aN ∧ v9 = .int .i64 bH ∧ Aside0 (impl_connected.l0 kq a0 l1 aN a0 bH = some r) ∧ Aside0 (kq ≤ k) ∧ Aside0 (Below w.heap.size w w'))); case atStart => exact ⟨(1), (0), zz5, zz5, H', ⟨Nat.le_refl _⟩, ⟨zz1⟩⟩
 case round =>
  clear H'; (try clear c1); (try clear p2); obtain ⟨aN, bH, rfl, rfl, HA, HK1, HB⟩ := hrel
  cases gk with
  | zero => exact absurd HA.out (by simp [impl_connected.l0])
  | succ k1 =>
   have H := HA.out; clear HA; simp only [impl_connected.l0] at H; by_cases c3 : bH < a0; rotate_left
   ·rw [if_neg c3] at H; have dD := decide_eq_false c3; clear c3; by_cases c27 : 0 ≤ a0; rotate_left
    ·rw [if_neg c27] at H; exact absurd H (by simp)
    rw [if_pos c27] at H; have tH := eq_true c27; have BP : decide (0 ≤ a0) = true := decide_eq_true c27; clear c27; obtain ⟨mY, mA⟩ : ∃ j_ : Int, (shl .i64 1 a0) = j_ := ⟨_, rfl⟩; (replace H : (some (aN == (wrap64 ((mY) - 1)))) = some r := by first | (rw [mA] at H; exact H) | (simp only [mA] at H ⊢; exact H)); have oV : (IntKind.i64.wrap (1 * 2 ^ min a0.toNat 64)) = mY := mA; have oU : a0 ≤ 64 → (IntKind.i64.wrap (1 * 2 ^ a0.toNat)) = mY := shl_small mA; (have wY : (IntKind.i64.wrap (2 ^ min a0.toNat 64)) = mY := by have h_ := oV; rw [Int.one_mul] at h_; exact h_); (have wW : a0 ≤ 64 → (IntKind.i64.wrap (2 ^ a0.toNat)) = mY := fun hle_ => by have h_ := oU hle_; rw [Int.one_mul] at h_; exact h_); have wU : (wrap64 (1 * 2 ^ min a0.toNat 64)) = mY := (i64_w _).symm.trans oV; (have wV : a0 ≤ 64 → (wrap64 (1 * 2 ^ a0.toNat)) = mY := fun h_ => (i64_w _).symm.trans (oU h_)); obtain rfl := Option.some.inj H; go_wp2; (repeat (go_quiet (fail); try go_wp2)); go_ret; exact ⟨by first | rfl | (simp [errW_none, errW_some] <;> rfl) | (simp only [← mA]; first | rfl | (simp [errW_none, errW_some] <;> rfl)) | (simp [*, errW_none, errW_some] <;> rfl), zz1⟩
   rw [if_pos c3] at H; have dD := decide_eq_true c3; clear c3; have H' := zK_ H; clear H; go_wp2; (repeat (go_quiet (fail); try go_wp2)); (go_loopg [5, 13] k1 (fun kq v5 v13 w' => ∃ (bO : Int) (bB : Int), v5 = .int .i64 bO ∧ v13 = .int .i64 bB ∧ Aside0 (impl_connected.l1 kq a0 l1 bO a0 bH l1 (l1.length : Int) bB = some r) ∧ Aside0 (kq ≤ k1) ∧ Aside0 (Below w.heap.size w w'))); case atStart => exact ⟨(aN), (0), zz5, zz5, H', ⟨Nat.le_refl _⟩, ⟨zz1⟩⟩
   case round =>
    clear H'; (try clear c1); (try clear p2); (try clear c3); (try clear dD); (try clear p2); obtain ⟨bO, bB, rfl, rfl, HA, HK2, HB⟩ := hrel
    cases gk with
    | zero => exact absurd HA.out (by simp [impl_connected.l1])
    | succ k2 =>
     have H := HA.out; clear HA; simp only [impl_connected.l1] at H; by_cases c4 : bB < (l1.length : Int); rotate_left
     ·rw [if_neg c4] at H; have dB := decide_eq_false c4; clear c4; have H' := zK_ H; clear H; go_wp2; (repeat (go_quiet (fail); try go_wp2)); go_roundg k2; (case measure => have := HK1.out; have := HK2.out; omega); case rel => exact ⟨(bO), (wrap64 (bH + 1)), zz5, zz5, H', ⟨zz51⟩, ⟨zz1⟩⟩
     rw [if_pos c4] at H; have dB := decide_eq_true c4; clear c4; by_cases c5 : 0 ≤ bB; rotate_left
     ·rw [if_neg c5] at H; exact absurd H (by simp)
     rw [if_pos c5] at H; have dH := decide_eq_true c5; clear c5; by_cases c6 : bB < (l1.length : Int); rotate_left
     ·rw [if_neg c6] at H; exact absurd H (by simp)
     rw [if_pos c6] at H; have dY := decide_eq_true c6; clear c6; by_cases c7 : 0 ≤ ((rd_T57 l1 bB).f0); rotate_left
     ·rw [if_neg c7] at H; exact absurd H (by simp)
     rw [if_pos c7] at H; have dK := eq_true c7; have kW : decide (0 ≤ ((rd_T57 l1 bB).f0)) = true := decide_eq_true c7; clear c7; obtain ⟨nH, l8⟩ : ∃ j_ : Int, (shr .i64 bO ((rd_T57 l1 bB).f0)) = j_ := ⟨_, rfl⟩; (replace H : (if (Go.bits .and .i64 (nH) 1) = 1 then (if 0 ≤ ((rd_T57 l1 bB).f1) then (impl_connected.l1 k2 a0 l1 (Go.bits .or .i64 bO (Go.bits .or .i64 (shl .i64 1 ((rd_T57 l1 bB).f0)) (shl .i64 1 ((rd_T57 l1 bB).f1)))) a0 bH l1 (l1.length : Int) (wrap64 (bB + 1))) else (none)) else (if 0 ≤ ((rd_T57 l1 bB).f1) then (if (Go.bits .and .i64 (shr .i64 bO ((rd_T57 l1 bB).f1)) 1) = 1 then (impl_connected.l1 k2 a0 l1 (Go.bits .or .i64 bO (Go.bits .or .i64 (shl .i64 1 ((rd_T57 l1 bB).f0)) (shl .i64 1 ((rd_T57 l1 bB).f1)))) a0 bH l1 (l1.length : Int) (wrap64 (bB + 1))) else (impl_connected.l1 k2 a0 l1 bO a0 bH l1 (l1.length : Int) (wrap64 (bB + 1)))) else (none))) = some r := by first | (rw [l8] at H; exact H) | (simp only [l8] at H ⊢; exact H)); have sJ : (bO / 2 ^ min ((rd_T57 l1 bB).f0).toNat 64) = nH := l8; have AY : ((rd_T57 l1 bB).f0) ≤ 64 → (bO / 2 ^ ((rd_T57 l1 bB).f0).toNat) = nH := shr_small l8; by_cases c9 : (Go.bits .and .i64 (nH) 1) = 1
     ·rw [if_pos c9] at H; have fN : ((Go.bits .and .i64 (nH) 1) == 1) = true := beq_iff_eq.mpr c9; have pH : ((Go.bits .and .i64 (nH) 1) != 1) = false := bne_eq_false_iff_eq.mpr c9; clear c9; have gS := eq_true (of_decide_eq_true zz3 : 0 ≤ ((rd_T57 l1 bB).f0)); obtain ⟨lE, mE⟩ : ∃ j_ : Int, (shl .i64 1 ((rd_T57 l1 bB).f0)) = j_ := ⟨_, rfl⟩; (replace H : (if 0 ≤ ((rd_T57 l1 bB).f1) then (impl_connected.l1 k2 a0 l1 (Go.bits .or .i64 bO (Go.bits .or .i64 (lE) (shl .i64 1 ((rd_T57 l1 bB).f1)))) a0 bH l1 (l1.length : Int) (wrap64 (bB + 1))) else (none)) = some r := by first | (rw [mE] at H; exact H) | (simp only [mE] at H ⊢; exact H)); have o7 : (IntKind.i64.wrap (1 * 2 ^ min ((rd_T57 l1 bB).f0).toNat 64)) = lE := mE; have o6 : ((rd_T57 l1 bB).f0) ≤ 64 → (IntKind.i64.wrap (1 * 2 ^ ((rd_T57 l1 bB).f0).toNat)) = lE := shl_small mE; (have yA : (IntKind.i64.wrap (2 ^ min ((rd_T57 l1 bB).f0).toNat 64)) = lE := by have h_ := o7; rw [Int.one_mul] at h_; exact h_); (have xZ : ((rd_T57 l1 bB).f0) ≤ 64 → (IntKind.i64.wrap (2 ^ ((rd_T57 l1 bB).f0).toNat)) = lE := fun hle_ => by have h_ := o6 hle_; rw [Int.one_mul] at h_; exact h_); have xX : (wrap64 (1 * 2 ^ min ((rd_T57 l1 bB).f0).toNat 64)) = lE := (i64_w _).symm.trans o7; (have xY : ((rd_T57 l1 bB).f0) ≤ 64 → (wrap64 (1 * 2 ^ ((rd_T57 l1 bB).f0).toNat)) = lE := fun h_ => (i64_w _).symm.trans (o6 h_)); by_cases c12 : 0 ≤ ((rd_T57 l1 bB).f1); rotate_left
      ·rw [if_neg c12] at H; exact absurd H (by simp)
      rw [if_pos c12] at H; have j3 := eq_true c12; have oB : decide (0 ≤ ((rd_T57 l1 bB).f1)) = true := decide_eq_true c12; clear c12; obtain ⟨l7, mD⟩ : ∃ j_ : Int, (shl .i64 1 ((rd_T57 l1 bB).f1)) = j_ := ⟨_, rfl⟩; (replace H : (impl_connected.l1 k2 a0 l1 (Go.bits .or .i64 bO (Go.bits .or .i64 (lE) (l7))) a0 bH l1 (l1.length : Int) (wrap64 (bB + 1))) = some r := by first | (rw [mD] at H; exact H) | (simp only [mD] at H ⊢; exact H)); have o5 : (IntKind.i64.wrap (1 * 2 ^ min ((rd_T57 l1 bB).f1).toNat 64)) = l7 := mD; have o4 : ((rd_T57 l1 bB).f1) ≤ 64 → (IntKind.i64.wrap (1 * 2 ^ ((rd_T57 l1 bB).f1).toNat)) = l7 := shl_small mD; (have xT : (IntKind.i64.wrap (2 ^ min ((rd_T57 l1 bB).f1).toNat 64)) = l7 := by have h_ := o5; rw [Int.one_mul] at h_; exact h_); (have xS : ((rd_T57 l1 bB).f1) ≤ 64 → (IntKind.i64.wrap (2 ^ ((rd_T57 l1 bB).f1).toNat)) = l7 := fun hle_ => by have h_ := o4 hle_; rw [Int.one_mul] at h_; exact h_); have xQ : (wrap64 (1 * 2 ^ min ((rd_T57 l1 bB).f1).toNat 64)) = l7 := (i64_w _).symm.trans o5; (have xR : ((rd_T57 l1 bB).f1) ≤ 64 → (wrap64 (1 * 2 ^ ((rd_T57 l1 bB).f1).toNat)) = l7 := fun h_ => (i64_w _).symm.trans (o4 h_)); have H' := zK_ H; clear H; have p101 : 0 ≤ (bB : Int) := of_decide_eq_true zz3; have q101 : bB < (l1.length : Int) := of_decide_eq_true zz3; obtain ⟨b8, e101, a6, cR⟩ := at_T57 HR1.out bB p101 q101; cases e101; replace a6 := (HB.out.cell (World.block_lt_of_cell? w _ a6)).trans a6; replace cR := (HB.out.cell (World.block_lt_of_cell? w _ cR)).trans cR; replace p101 := eq_true p101; replace q101 := eq_true q101; (go_wp2_with (first | ((with_reducible refine gate_dst (N := 7) rfl ?_); refine box_event ?hg (N := 7) ?hd (cs := #[.int .i64 0, .int .i64 0]) (t := 57) ?hr ?_; (case hd => rfl); (case hg => rfl); (case hr => exact zz9); intro a7 hg w14 hbox hb; have n_ := zA4 (below_step zz1 hb) hbox (zz10 : w.heap.size ≤ a7) (zz10 : w.heap.size ≤ a7); clear HB; obtain ⟨HB, aT, GW102, GE102⟩ := n_; clear hb hbox hg; have gQ := zC20 aT; have gP := zC21 aT; have gO := blk_frozen aT.out 0; have gN := blk_frozen aT.out 1))); (repeat (go_quiet (first | ((with_reducible refine gate_dst (N := 7) rfl ?_); refine box_event ?hg (N := 7) ?hd (cs := #[.int .i64 0, .int .i64 0]) (t := 57) ?hr ?_; (case hd => rfl); (case hg => rfl); (case hr => exact zz9); intro a7 hg w14 hbox hb; have n_ := zA4 (below_step zz1 hb) hbox (zz10 : w.heap.size ≤ a7) (zz10 : w.heap.size ≤ a7); clear HB; obtain ⟨HB, aT, GW102, GE102⟩ := n_; clear hb hbox hg; have gQ := zC20 aT; have gP := zC21 aT; have gO := blk_frozen aT.out 0; have gN := blk_frozen aT.out 1)); try go_wp2_with (first | ((with_reducible refine gate_dst (N := 7) rfl ?_); refine box_event ?hg (N := 7) ?hd (cs := #[.int .i64 0, .int .i64 0]) (t := 57) ?hr ?_; (case hd => rfl); (case hg => rfl); (case hr => exact zz9); intro a7 hg w14 hbox hb; have n_ := zA4 (below_step zz1 hb) hbox (zz10 : w.heap.size ≤ a7) (zz10 : w.heap.size ≤ a7); clear HB; obtain ⟨HB, aT, GW102, GE102⟩ := n_; clear hb hbox hg; have gQ := zC20 aT; have gP := zC21 aT; have gO := blk_frozen aT.out 0; have gN := blk_frozen aT.out 1)))); go_roundg k2; (case measure => have := HK1.out; have := HK2.out; omega); case rel => exact ⟨(Go.bits .or .i64 bO (Go.bits .or .i64 (lE) (l7))), (wrap64 (bB + 1)), (by first | rfl | (simp; done) | (simp only [← mE, ← mD] <;> (first | rfl | simp)) | (simp [*]; done)), zz5, H', ⟨zz51⟩, ⟨zz60⟩⟩
     rw [if_neg c9] at H; have fN : ((Go.bits .and .i64 (nH) 1) == 1) = false := beq_eq_false_iff_ne.mpr c9; have pH : ((Go.bits .and .i64 (nH) 1) != 1) = true := bne_iff_ne.mpr c9; by_cases c16 : 0 ≤ ((rd_T57 l1 bB).f1); rotate_left
     ·rw [if_neg c16] at H; exact absurd H (by simp)
     rw [if_pos c16] at H; have iJ := eq_true c16; have oA : decide (0 ≤ ((rd_T57 l1 bB).f1)) = true := decide_eq_true c16; clear c16; obtain ⟨dG, fM⟩ : ∃ j_ : Int, (shr .i64 bO ((rd_T57 l1 bB).f1)) = j_ := ⟨_, rfl⟩; (replace H : (if (Go.bits .and .i64 (dG) 1) = 1 then (impl_connected.l1 k2 a0 l1 (Go.bits .or .i64 bO (Go.bits .or .i64 (shl .i64 1 ((rd_T57 l1 bB).f0)) (shl .i64 1 ((rd_T57 l1 bB).f1)))) a0 bH l1 (l1.length : Int) (wrap64 (bB + 1))) else (impl_connected.l1 k2 a0 l1 bO a0 bH l1 (l1.length : Int) (wrap64 (bB + 1)))) = some r := by first | (rw [fM] at H; exact H) | (simp only [fM] at H ⊢; exact H)); have lG : (bO / 2 ^ min ((rd_T57 l1 bB).f1).toNat 64) = dG := fM; have m4 : ((rd_T57 l1 bB).f1) ≤ 64 → (bO / 2 ^ ((rd_T57 l1 bB).f1).toNat) = dG := shr_small fM; by_cases c18 : (Go.bits .and .i64 (dG) 1) = 1; rotate_left
     ·rw [if_neg c18] at H; have iI : ((Go.bits .and .i64 (dG) 1) == 1) = false := beq_eq_false_iff_ne.mpr c18; have n8 : ((Go.bits .and .i64 (dG) 1) != 1) = true := bne_iff_ne.mpr c18; have H' := zK_ H; clear H; have p101 : 0 ≤ (bB : Int) := of_decide_eq_true zz3; have q101 : bB < (l1.length : Int) := of_decide_eq_true zz3; obtain ⟨b8, e101, a6, cR⟩ := at_T57 HR1.out bB p101 q101; cases e101; replace a6 := (HB.out.cell (World.block_lt_of_cell? w _ a6)).trans a6; replace cR := (HB.out.cell (World.block_lt_of_cell? w _ cR)).trans cR; replace p101 := eq_true p101; replace q101 := eq_true q101; (go_wp2_with (first | ((with_reducible refine gate_dst (N := 7) rfl ?_); refine box_event ?hg (N := 7) ?hd (cs := #[.int .i64 0, .int .i64 0]) (t := 57) ?hr ?_; (case hd => rfl); (case hg => rfl); (case hr => exact zz9); intro a7 hg w25 hbox hb; have n_ := zA4 (below_step zz1 hb) hbox (zz10 : w.heap.size ≤ a7) (zz10 : w.heap.size ≤ a7); clear HB; obtain ⟨HB, aT, GW102, GE102⟩ := n_; clear hb hbox hg; have iT := zC20 aT; have iS := zC21 aT; have iP := blk_frozen aT.out 0; have iO := blk_frozen aT.out 1))); (repeat (go_quiet (first | ((with_reducible refine gate_dst (N := 7) rfl ?_); refine box_event ?hg (N := 7) ?hd (cs := #[.int .i64 0, .int .i64 0]) (t := 57) ?hr ?_; (case hd => rfl); (case hg => rfl); (case hr => exact zz9); intro a7 hg w25 hbox hb; have n_ := zA4 (below_step zz1 hb) hbox (zz10 : w.heap.size ≤ a7) (zz10 : w.heap.size ≤ a7); clear HB; obtain ⟨HB, aT, GW102, GE102⟩ := n_; clear hb hbox hg; have iT := zC20 aT; have iS := zC21 aT; have iP := blk_frozen aT.out 0; have iO := blk_frozen aT.out 1)); try go_wp2_with (first | ((with_reducible refine gate_dst (N := 7) rfl ?_); refine box_event ?hg (N := 7) ?hd (cs := #[.int .i64 0, .int .i64 0]) (t := 57) ?hr ?_; (case hd => rfl); (case hg => rfl); (case hr => exact zz9); intro a7 hg w25 hbox hb; have n_ := zA4 (below_step zz1 hb) hbox (zz10 : w.heap.size ≤ a7) (zz10 : w.heap.size ≤ a7); clear HB; obtain ⟨HB, aT, GW102, GE102⟩ := n_; clear hb hbox hg; have iT := zC20 aT; have iS := zC21 aT; have iP := blk_frozen aT.out 0; have iO := blk_frozen aT.out 1)))); go_roundg k2; (case measure => have := HK1.out; have := HK2.out; omega); case rel => exact ⟨(bO), (wrap64 (bB + 1)), zz5, zz5, H', ⟨zz51⟩, ⟨zz60⟩⟩
     rw [if_pos c18] at H; have iI : ((Go.bits .and .i64 (dG) 1) == 1) = true := beq_iff_eq.mpr c18; have n8 : ((Go.bits .and .i64 (dG) 1) != 1) = false := bne_eq_false_iff_eq.mpr c18; clear c18; have pL := eq_true (of_decide_eq_true zz3 : 0 ≤ ((rd_T57 l1 bB).f0)); obtain ⟨lD, mC⟩ : ∃ j_ : Int, (shl .i64 1 ((rd_T57 l1 bB).f0)) = j_ := ⟨_, rfl⟩; (replace H : (impl_connected.l1 k2 a0 l1 (Go.bits .or .i64 bO (Go.bits .or .i64 (lD) (shl .i64 1 ((rd_T57 l1 bB).f1)))) a0 bH l1 (l1.length : Int) (wrap64 (bB + 1))) = some r := by first | (rw [mC] at H; exact H) | (simp only [mC] at H ⊢; exact H)); have o3 : (IntKind.i64.wrap (1 * 2 ^ min ((rd_T57 l1 bB).f0).toNat 64)) = lD := mC; have o2 : ((rd_T57 l1 bB).f0) ≤ 64 → (IntKind.i64.wrap (1 * 2 ^ ((rd_T57 l1 bB).f0).toNat)) = lD := shl_small mC; (have xI : (IntKind.i64.wrap (2 ^ min ((rd_T57 l1 bB).f0).toNat 64)) = lD := by have h_ := o3; rw [Int.one_mul] at h_; exact h_); (have xH : ((rd_T57 l1 bB).f0) ≤ 64 → (IntKind.i64.wrap (2 ^ ((rd_T57 l1 bB).f0).toNat)) = lD := fun hle_ => by have h_ := o2 hle_; rw [Int.one_mul] at h_; exact h_); have xF : (wrap64 (1 * 2 ^ min ((rd_T57 l1 bB).f0).toNat 64)) = lD := (i64_w _).symm.trans o3; (have xG : ((rd_T57 l1 bB).f0) ≤ 64 → (wrap64 (1 * 2 ^ ((rd_T57 l1 bB).f0).toNat)) = lD := fun h_ => (i64_w _).symm.trans (o2 h_)); have iZ := eq_true (of_decide_eq_true zz3 : 0 ≤ ((rd_T57 l1 bB).f1)); obtain ⟨l6, mB⟩ : ∃ j_ : Int, (shl .i64 1 ((rd_T57 l1 bB).f1)) = j_ := ⟨_, rfl⟩; (replace H : (impl_connected.l1 k2 a0 l1 (Go.bits .or .i64 bO (Go.bits .or .i64 (lD) (l6))) a0 bH l1 (l1.length : Int) (wrap64 (bB + 1))) = some r := by first | (rw [mB] at H; exact H) | (simp only [mB] at H ⊢; exact H)); have oZ : (IntKind.i64.wrap (1 * 2 ^ min ((rd_T57 l1 bB).f1).toNat 64)) = l6 := mB; have oY : ((rd_T57 l1 bB).f1) ≤ 64 → (IntKind.i64.wrap (1 * 2 ^ ((rd_T57 l1 bB).f1).toNat)) = l6 := shl_small mB; (have xE : (IntKind.i64.wrap (2 ^ min ((rd_T57 l1 bB).f1).toNat 64)) = l6 := by have h_ := oZ; rw [Int.one_mul] at h_; exact h_); (have xD : ((rd_T57 l1 bB).f1) ≤ 64 → (IntKind.i64.wrap (2 ^ ((rd_T57 l1 bB).f1).toNat)) = l6 := fun hle_ => by have h_ := oY hle_; rw [Int.one_mul] at h_; exact h_); have xB : (wrap64 (1 * 2 ^ min ((rd_T57 l1 bB).f1).toNat 64)) = l6 := (i64_w _).symm.trans oZ; (have xC : ((rd_T57 l1 bB).f1) ≤ 64 → (wrap64 (1 * 2 ^ ((rd_T57 l1 bB).f1).toNat)) = l6 := fun h_ => (i64_w _).symm.trans (oY h_)); have H' := zK_ H; clear H; have p101 : 0 ≤ (bB : Int) := of_decide_eq_true zz3; have q101 : bB < (l1.length : Int) := of_decide_eq_true zz3; obtain ⟨b8, e101, a6, cR⟩ := at_T57 HR1.out bB p101 q101; cases e101; replace a6 := (HB.out.cell (World.block_lt_of_cell? w _ a6)).trans a6; replace cR := (HB.out.cell (World.block_lt_of_cell? w _ cR)).trans cR; replace p101 := eq_true p101; replace q101 := eq_true q101; (go_wp2_with (first | ((with_reducible refine gate_dst (N := 7) rfl ?_); refine box_event ?hg (N := 7) ?hd (cs := #[.int .i64 0, .int .i64 0]) (t := 57) ?hr ?_; (case hd => rfl); (case hg => rfl); (case hr => exact zz9); intro a7 hg w23 hbox hb; have n_ := zA4 (below_step zz1 hb) hbox (zz10 : w.heap.size ≤ a7) (zz10 : w.heap.size ≤ a7); clear HB; obtain ⟨HB, aT, GW102, GE102⟩ := n_; clear hb hbox hg; have jJ := zC20 aT; have jI := zC21 aT; have jB := blk_frozen aT.out 0; have jA := blk_frozen aT.out 1))); (repeat (go_quiet (first | ((with_reducible refine gate_dst (N := 7) rfl ?_); refine box_event ?hg (N := 7) ?hd (cs := #[.int .i64 0, .int .i64 0]) (t := 57) ?hr ?_; (case hd => rfl); (case hg => rfl); (case hr => exact zz9); intro a7 hg w23 hbox hb; have n_ := zA4 (below_step zz1 hb) hbox (zz10 : w.heap.size ≤ a7) (zz10 : w.heap.size ≤ a7); clear HB; obtain ⟨HB, aT, GW102, GE102⟩ := n_; clear hb hbox hg; have jJ := zC20 aT; have jI := zC21 aT; have jB := blk_frozen aT.out 0; have jA := blk_frozen aT.out 1)); try go_wp2_with (first | ((with_reducible refine gate_dst (N := 7) rfl ?_); refine box_event ?hg (N := 7) ?hd (cs := #[.int .i64 0, .int .i64 0]) (t := 57) ?hr ?_; (case hd => rfl); (case hg => rfl); (case hr => exact zz9); intro a7 hg w23 hbox hb; have n_ := zA4 (below_step zz1 hb) hbox (zz10 : w.heap.size ≤ a7) (zz10 : w.heap.size ≤ a7); clear HB; obtain ⟨HB, aT, GW102, GE102⟩ := n_; clear hb hbox hg; have jJ := zC20 aT; have jI := zC21 aT; have jB := blk_frozen aT.out 0; have jA := blk_frozen aT.out 1)))); go_roundg k2; (case measure => have := HK1.out; have := HK2.out; omega); case rel => exact ⟨(Go.bits .or .i64 bO (Go.bits .or .i64 (lD) (l6))), (wrap64 (bB + 1)), (by first | rfl | (simp; done) | (simp only [← mC, ← mB] <;> (first | rfl | simp)) | (simp [*]; done)), zz5, H', ⟨zz51⟩, ⟨zz60⟩⟩
end Go.Proofs.Ytnbljcgdgblgoaa.P
end

section
namespace Go.Proofs.Ytnbljcgdgblgoaa.P
open Go.RowKit Go.Proofs.YtnbljcgdgblgoaaW.PrintWords Go.Proofs.YtnbljcgdgblgoaaW.PrintLast Go.Proofs.YtnbljcgdgblgoaaW.PrintMore
attribute [local go_sem] max2_int min2_int max_two min_two max_three min_three max_four min_four
set_option linter.unusedVariables false
set_option linter.unusedSimpArgs false
mutual
def impl_EdgesOk.j0 : Nat → Bool → Int → List (S57) → Option (Bool)
 | 0, _, _, _ => none
 | k + 1, qE, aM, aJ => if qE = true then (some false) else (impl_EdgesOk.l0 k aJ (aJ.length : Int) 0 aM aJ)
def impl_EdgesOk.l0 : Nat → List (S57) → Int → Int → Int → List (S57) → Option (Bool)
 | 0, _, _, _, _, _ => none
 | k + 1, g7, iC, iB, aM, aJ => if iB < iC then (if 0 ≤ iB then (if iB < (g7.length : Int) then (if ((rd_T57 g7 iB).f0) < 0 then (some false) else (if ((rd_T57 g7 iB).f0) ≥ ((rd_T57 g7 iB).f1) then (some false) else (if ((rd_T57 g7 iB).f1) ≥ aM then (some false) else (impl_EdgesOk.l0 k g7 iC (wrap64 (iB + 1)) aM aJ)))) else (none)) else (none)) else (some true)
end
def impl_EdgesOk.f (k : Nat) (aD : Int) (aA : List (S57)) : Option (Bool) := (impl_within.f aD 1 6).bind fun aZ => (if aZ = true then (impl_EdgesOk.j0 k (decide ((aA.length : Int) > 12)) aD aA) else (impl_EdgesOk.j0 k true aD aA))
theorem impl_EdgesOk.mono_l : ∀ k, (∀ y0 y1 y2, LeO (impl_EdgesOk.j0 k y0 y1 y2) (impl_EdgesOk.j0 (k + 1) y0 y1 y2)) ∧ (∀ y0 y1 y2 y3 y4, LeO (impl_EdgesOk.l0 k y0 y1 y2 y3 y4) (impl_EdgesOk.l0 (k + 1) y0 y1 y2 y3 y4))
 | 0 => ⟨fun _ _ _ r h => by simp [impl_EdgesOk.j0] at h, fun _ _ _ _ _ r h => by simp [impl_EdgesOk.l0] at h⟩
 | k + 1 => by
  obtain ⟨ih0, ih1⟩ := impl_EdgesOk.mono_l k
  refine ⟨?_, ?_⟩
  ·intro y0 y1 y2
   unfold impl_EdgesOk.j0
   exact zm1
  ·intro y0 y1 y2 y3 y4
   unfold impl_EdgesOk.l0
   exact zm1
theorem impl_EdgesOk.mono : ∀ a0 a1 k, LeO (impl_EdgesOk.f k a0 a1) (impl_EdgesOk.f (k + 1) a0 a1) := by
 intro a0 a1 k; obtain ⟨ih0, ih1⟩ := impl_EdgesOk.mono_l k; unfold impl_EdgesOk.f; exact zm1
theorem impl_EdgesOk.calls (k : Nat) (aD : Int) (aH : Option Addr) (aG : Nat) (aA : List (S57)) (r : Bool) (w : World) (hr0_1 : Kd.C k57 w aH aA.length aA) (hc0_1 : aA.length ≤ aG) (h : impl_EdgesOk.f k aD aA = some r) :
  Calls Try.prog 90 #[.agg #[.int .i64 aD, .slice aH aA.length aG]] w fun e w' => e = .returned (.bool r) ∧ Below w.heap.size w w' := by
 have hu25 := Try.underlying25; have hu57 := Try.underlying57; have bL := zK_ hr0_1; have bG := zK_ hc0_1; clear hr0_1 hc0_1; have HB := zK_ (Below.refl w.heap.size w); have H : ((impl_within.f aD 1 6).bind fun aZ => (if aZ = true then (impl_EdgesOk.j0 k (decide ((aA.length : Int) > 12)) aD aA) else (impl_EdgesOk.j0 k true aD aA))) = some r := h; clear h; have HC2 := zK_ H; clear H; go_enter Try.func90, Try.ntmps90; (go_upto_region 1 with (first | ((with_reducible refine gate_dst (N := 1) rfl ?_); (try (refine gate_guard (by rfl) ?_; dsimp only)); refine box_event ?hg (N := 1) ?hd (cs := #[.int .i64 aD, .slice aH aA.length aG]) (t := 25) ?hr ?_; (case hd => rfl); (case hg => rfl); (case hr => exact zz9); intro aE hg w3 hbox hb; have n_ := zA4 (below_step zz1 hb) hbox (zz10 : w.heap.size ≤ aE) (zz10 : w.heap.size ≤ aE); clear HB; obtain ⟨HB, aC, GW101, GE101⟩ := n_; clear hb hbox hg))); (try simp only [Act.put, List.setIfInBounds_toArray, List.set_cons_zero, List.set_cons_succ]); go_cut [14] (fun v14 wc => ∃ (kq : Nat) (gV : Bool), v14 = .bool gV ∧ Aside0 (impl_EdgesOk.j0 kq gV aD aA = some r) ∧ Aside0 (kq ≤ k) ∧ Aside0 (wc.heap[aE]? = some (.cells #[.int .i64 aD, (.slice aH aA.length aG)] 25 (0, 0))) ∧ Aside0 (Below w.heap.size w wc))
 case first =>
  have H := HC2.out; clear HC2; obtain ⟨aZ, A40, H⟩ := zO_ H; (try dsimp only at H); have A4 := zK_ A40; clear A40; by_cases c5 : aZ = true
  ·subst c5; rw [if_pos rfl] at H; have H' := zK_ H; clear H; have gI := zC20 aC; have gH := zC21 aC; have gE := blk_frozen aC.out 0; have gD := blk_frozen aC.out 1; (go_wp2_with (first | ((with_reducible refine gate_callee (f := 39) rfl ?_); refine goesL_ (some 7) rfl rfl Try.func39 (by kernel_rfl) rfl #[.int .i64 aD, .int .i64 1, .int .i64 6] rfl zz4 ?_; (with_reducible refine (impl_within.calls aD 1 6 true _ A4.out).mono ?_); rintro e w' ⟨rfl, ⟨nd, rfl⟩⟩; refine ⟨_, rfl, ?_⟩))); (go_meet); case rel => exact ⟨_, (decide ((aA.length : Int) > 12)), zz5, H', ⟨by first | omega | exact Nat.le_refl _⟩, ⟨zz2⟩, ⟨zz0⟩⟩
  replace c5 := Bool.eq_false_iff.mpr c5; subst c5; rw [if_neg (show ¬ (false = true) by decide)] at H; have H' := zK_ H; clear H; have eM := zC20 aC; have eK := zC21 aC; have eE := blk_frozen aC.out 0; have d9 := blk_frozen aC.out 1; (go_wp2_with (first | ((with_reducible refine gate_callee (f := 39) rfl ?_); refine goesL_ (some 7) rfl rfl Try.func39 (by kernel_rfl) rfl #[.int .i64 aD, .int .i64 1, .int .i64 6] rfl zz4 ?_; (with_reducible refine (impl_within.calls aD 1 6 false _ A4.out).mono ?_); rintro e w' ⟨rfl, ⟨nd, rfl⟩⟩; refine ⟨_, rfl, ?_⟩))); (go_meet); case rel => exact ⟨_, (true), zz5, H', ⟨by first | omega | exact Nat.le_refl _⟩, ⟨zz2⟩, ⟨zz0⟩⟩
 case rest =>
  clear HC2; (try clear p2); (try clear c3); (try clear c5); (try clear gI); (try clear gH); (try clear eM); (try clear eK); (try clear gE); (try clear gD); (try clear eE); (try clear d9); obtain ⟨kq, gV, rfl, HA, HJ1, aC, HB⟩ := hcut
  cases kq with
  | zero => exact absurd HA.out (by simp [impl_EdgesOk.j0])
  | succ kj1 =>
   have H := HA.out; clear HA; simp only [impl_EdgesOk.j0] at H; by_cases c8 : gV = true
   ·subst c8; rw [if_pos rfl] at H; obtain rfl := Option.some.inj H; go_wp2; go_ret; exact ⟨zz7, zz0⟩
   replace c8 := Bool.eq_false_iff.mpr c8; subst c8; rw [if_neg (show ¬ (false = true) by decide)] at H; have H' := zK_ H; clear H; have eJ := zC20 aC; have eI := zC21 aC; have d8 := blk_frozen aC.out 0; have d7 := blk_frozen aC.out 1; go_wp2; (go_loopg [18] kj1 (fun kq v18 w' => ∃ (bU : Int), v18 = .int .i64 bU ∧ Aside0 (impl_EdgesOk.l0 kq aA (aA.length : Int) bU aD aA = some r) ∧ Aside0 (kq ≤ kj1) ∧ Aside0 (w'.heap[aE]? = some (.cells #[.int .i64 aD, (.slice aH aA.length aG)] 25 (0, 0))) ∧ Aside0 (Below w.heap.size w w'))); case atStart => exact ⟨(0), zz5, H', ⟨Nat.le_refl _⟩, ⟨zz2⟩, ⟨zz0⟩⟩
   case round =>
    clear H'; (try clear p2); (try clear c3); (try clear c5); (try clear c8); (try clear c9); (try clear gI); (try clear gH); (try clear eM); (try clear eK); (try clear eJ); (try clear eI); (try clear gE); (try clear gD); (try clear eE); (try clear d9); (try clear d8); (try clear d7); (try clear p2); obtain ⟨bU, rfl, HA, HK2, aC, HB⟩ := hrel
    cases gk with
    | zero => exact absurd HA.out (by simp [impl_EdgesOk.l0])
    | succ k2 =>
     have H := HA.out; clear HA; simp only [impl_EdgesOk.l0] at H; by_cases c10 : bU < (aA.length : Int); rotate_left
     ·rw [if_neg c10] at H; have gS := decide_eq_false c10; clear c10; obtain rfl := Option.some.inj H; go_wp2; go_ret; exact ⟨zz7, zz0⟩
     rw [if_pos c10] at H; have gS := decide_eq_true c10; clear c10; by_cases c11 : 0 ≤ bU; rotate_left
     ·rw [if_neg c11] at H; exact absurd H (by simp)
     rw [if_pos c11] at H; have j4 := decide_eq_true c11; clear c11; by_cases c12 : bU < (aA.length : Int); rotate_left
     ·rw [if_neg c12] at H; exact absurd H (by simp)
     rw [if_pos c12] at H; have j3 := decide_eq_true c12; clear c12; by_cases c13 : ((rd_T57 aA bU).f0) < 0
     ·rw [if_pos c13] at H; have i1 := decide_eq_true c13; clear c13; obtain rfl := Option.some.inj H; have p103 : 0 ≤ (bU : Int) := of_decide_eq_true zz3; have q103 : bU < (aA.length : Int) := of_decide_eq_true zz3; obtain ⟨bD, e103, aQ, a8⟩ := at_T57 bL.out bU p103 q103; cases e103; replace aQ := (HB.out.cell (World.block_lt_of_cell? w _ aQ)).trans aQ; replace a8 := (HB.out.cell (World.block_lt_of_cell? w _ a8)).trans a8; replace p103 := eq_true p103; replace q103 := eq_true q103; (go_wp2_with (first | ((with_reducible refine gate_dst (N := 4) rfl ?_); (try (refine gate_guard (by rfl) ?_; dsimp only)); refine box_event ?hg (N := 4) ?hd (cs := #[.int .i64 0, .int .i64 0]) (t := 57) ?hr ?_; (case hd => rfl); (case hg => rfl); (case hr => exact zz9); intro aW hg w14 hbox hb; have n_ := zA7 (blk_below (g := aE) (o := .cells #[.int .i64 aD, .slice (some bD) aA.length aG] 25 (0, 0)) zz2 hb) (below_step zz0 hb) hbox (zz13 : w.heap.size ≤ aW) (zz13 : w.heap.size ≤ aW) (zz16 : aE ≠ aW) (zz17 : aW ≠ aE); clear aC HB; obtain ⟨aC, HB, aY, GW104, GE104, bI, bJ⟩ := n_; clear hb hbox hg; have AV := bJ.out; have zZ := bI.out; have jN := zC20 aY; have jM := zC21 aY; have jF := blk_frozen aY.out 0; have jE := blk_frozen aY.out 1))); go_ret; exact ⟨zz7, zz11⟩
     rw [if_neg c13] at H; have i1 := decide_eq_false c13; clear c13; by_cases c17 : ((rd_T57 aA bU).f0) ≥ ((rd_T57 aA bU).f1)
     ·rw [if_pos c17] at H; have jR : decide (((rd_T57 aA bU).f1) ≤ ((rd_T57 aA bU).f0)) = true := decide_eq_true c17; clear c17; obtain rfl := Option.some.inj H; have p103 : 0 ≤ (bU : Int) := of_decide_eq_true zz3; have q103 : bU < (aA.length : Int) := of_decide_eq_true zz3; obtain ⟨bD, e103, aQ, a8⟩ := at_T57 bL.out bU p103 q103; cases e103; replace aQ := (HB.out.cell (World.block_lt_of_cell? w _ aQ)).trans aQ; replace a8 := (HB.out.cell (World.block_lt_of_cell? w _ a8)).trans a8; replace p103 := eq_true p103; replace q103 := eq_true q103; (go_wp2_with (first | ((with_reducible refine gate_dst (N := 4) rfl ?_); (try (refine gate_guard (by rfl) ?_; dsimp only)); refine box_event ?hg (N := 4) ?hd (cs := #[.int .i64 0, .int .i64 0]) (t := 57) ?hr ?_; (case hd => rfl); (case hg => rfl); (case hr => exact zz9); intro aW hg w18 hbox hb; have n_ := zA7 (blk_below (g := aE) (o := .cells #[.int .i64 aD, .slice (some bD) aA.length aG] 25 (0, 0)) zz2 hb) (below_step zz0 hb) hbox (zz13 : w.heap.size ≤ aW) (zz13 : w.heap.size ≤ aW) (zz16 : aE ≠ aW) (zz17 : aW ≠ aE); clear aC HB; obtain ⟨aC, HB, aY, GW104, GE104, bI, bJ⟩ := n_; clear hb hbox hg; have sH := bJ.out; have sD := bI.out; have kL := zC20 aY; have kK := zC21 aY; have kF := blk_frozen aY.out 0; have kE := blk_frozen aY.out 1))); go_ret; exact ⟨zz7, zz11⟩
     rw [if_neg c17] at H; have jR : decide (((rd_T57 aA bU).f1) ≤ ((rd_T57 aA bU).f0)) = false := decide_eq_false c17; clear c17; by_cases c21 : ((rd_T57 aA bU).f1) ≥ aD
     ·rw [if_pos c21] at H; have iZ : decide (aD ≤ ((rd_T57 aA bU).f1)) = true := decide_eq_true c21; clear c21; obtain rfl := Option.some.inj H; have p103 : 0 ≤ (bU : Int) := of_decide_eq_true zz3; have q103 : bU < (aA.length : Int) := of_decide_eq_true zz3; obtain ⟨bD, e103, aQ, a8⟩ := at_T57 bL.out bU p103 q103; cases e103; replace aQ := (HB.out.cell (World.block_lt_of_cell? w _ aQ)).trans aQ; replace a8 := (HB.out.cell (World.block_lt_of_cell? w _ a8)).trans a8; replace p103 := eq_true p103; replace q103 := eq_true q103; (go_wp2_with (first | ((with_reducible refine gate_dst (N := 4) rfl ?_); (try (refine gate_guard (by rfl) ?_; dsimp only)); refine box_event ?hg (N := 4) ?hd (cs := #[.int .i64 0, .int .i64 0]) (t := 57) ?hr ?_; (case hd => rfl); (case hg => rfl); (case hr => exact zz9); intro aW hg w22 hbox hb; have n_ := zA7 (blk_below (g := aE) (o := .cells #[.int .i64 aD, .slice (some bD) aA.length aG] 25 (0, 0)) zz2 hb) (below_step zz0 hb) hbox (zz13 : w.heap.size ≤ aW) (zz13 : w.heap.size ≤ aW) (zz16 : aE ≠ aW) (zz17 : aW ≠ aE); clear aC HB; obtain ⟨aC, HB, aY, GW104, GE104, bI, bJ⟩ := n_; clear hb hbox hg; have AT := bJ.out; have zX := bI.out; have jJ := zC20 aY; have jI := zC21 aY; have jB := blk_frozen aY.out 0; have jA := blk_frozen aY.out 1; have lS := zC20 aC; have lR := zC21 aC; have lK := blk_frozen aC.out 0; have lJ := blk_frozen aC.out 1))); go_ret; exact ⟨zz7, zz11⟩
     rw [if_neg c21] at H; have iZ : decide (aD ≤ ((rd_T57 aA bU).f1)) = false := decide_eq_false c21; clear c21; have H' := zK_ H; clear H; have p103 : 0 ≤ (bU : Int) := of_decide_eq_true zz3; have q103 : bU < (aA.length : Int) := of_decide_eq_true zz3; obtain ⟨bD, e103, aQ, a8⟩ := at_T57 bL.out bU p103 q103; cases e103; replace aQ := (HB.out.cell (World.block_lt_of_cell? w _ aQ)).trans aQ; replace a8 := (HB.out.cell (World.block_lt_of_cell? w _ a8)).trans a8; replace p103 := eq_true p103; replace q103 := eq_true q103; (go_wp2_with (first | ((with_reducible refine gate_dst (N := 4) rfl ?_); (try (refine gate_guard (by rfl) ?_; dsimp only)); refine box_event ?hg (N := 4) ?hd (cs := #[.int .i64 0, .int .i64 0]) (t := 57) ?hr ?_; (case hd => rfl); (case hg => rfl); (case hr => exact zz9); intro aW hg w26 hbox hb; have n_ := zA7 (blk_below (g := aE) (o := .cells #[.int .i64 aD, .slice (some bD) aA.length aG] 25 (0, 0)) zz2 hb) (below_step zz0 hb) hbox (zz13 : w.heap.size ≤ aW) (zz13 : w.heap.size ≤ aW) (zz16 : aE ≠ aW) (zz17 : aW ≠ aE); clear aC HB; obtain ⟨aC, HB, aY, GW104, GE104, bI, bJ⟩ := n_; clear hb hbox hg; have AO := bJ.out; have zS := bI.out; have nW := zC20 aY; have nV := zC21 aY; have nO := blk_frozen aY.out 0; have nN := blk_frozen aY.out 1; have lQ := zC20 aC; have lP := zC21 aC; have lI := blk_frozen aC.out 0; have lH := blk_frozen aC.out 1))); go_roundg k2; (case measure => have := HJ1.out; have := HK2.out; omega); case rel => exact ⟨(wrap64 (bU + 1)), zz5, H', ⟨by have := HJ1.out; have := HK2.out; omega⟩, ⟨zz12⟩, ⟨zz11⟩⟩
end Go.Proofs.Ytnbljcgdgblgoaa.P
end

section
namespace Go.Proofs.Ytnbljcgdgblgoaa.Cf
set_option linter.unusedVariables false
set_option linter.unusedSimpArgs false
open Go.RowKit Go.Proofs.YtnbljcgdgblgoaaW.PrintWords
def Ep {α : Type} (g : Nat → Option α) (Q : α → Prop) : Prop := ∃ r, Q r ∧ ∃ K, ∀ k, K ≤ k → g k = some r
theorem Ep.now {α : Type} {Q : α → Prop} {r : α} (h : Q r) : Ep (fun _ => some r) Q := ⟨r, h, 0, fun _ _ => rfl⟩
theorem Ep.mono {α : Type} {g : Nat → Option α} {P Q : α → Prop} (h : Ep g P) (hpq : ∀ r, P r → Q r) : Ep g Q := by
 obtain ⟨r, hr, K, hK⟩ := h
 exact ⟨r, hpq r hr, K, hK⟩
theorem Ep.step {α : Type} {g f : Nat → Option α} {Q : α → Prop} (h : ∀ k, g (k + 1) = f k) (k : Ep f Q) : Ep g Q := by
 obtain ⟨r, hr, K, hK⟩ := k
 refine ⟨r, hr, K + 1, fun k hk => ?_⟩
 obtain ⟨m, rfl⟩ : ∃ m, k = m + 1 := ⟨k - 1, by omega⟩
 rw [h m]
 exact hK m (by omega)
theorem Ep.up {α : Type} {g : Nat → Option α} {Q : α → Prop} (h : Ep (fun k => g (k + 1)) Q) : Ep g Q := Ep.step (fun _ => rfl) h
theorem Ep.congr {α : Type} {g f : Nat → Option α} {Q : α → Prop} (h : ∀ k, g k = f k) (k : Ep f Q) : Ep g Q := by
 obtain ⟨r, hr, K, hK⟩ := k
 exact ⟨r, hr, K, fun k hk => (h k).trans (hK k hk)⟩
theorem Ep.bind {α β : Type} {g : Nat → Option α} {f : Nat → α → Option β} {P : α → Prop} {Q : β → Prop} (h : Ep g P) (k : ∀ a, P a → Ep (fun n => f n a) Q) : Ep (fun n => (g n).bind (f n)) Q := by
 obtain ⟨r, hr, K, hK⟩ := h
 obtain ⟨q, hq, L, hL⟩ := k r hr
 refine ⟨q, hq, max K L, fun k hk => ?_⟩
 show (g k).bind (f k) = some q
 rw [hK k (by omega)]
 exact hL k (by omega)
theorem Ep.bind0 {α β : Type} {g : Option α} {f : Nat → α → Option β} {a : α} {Q : β → Prop} (h : g = some a) (k : Ep (fun n => f n a) Q) : Ep (fun n => g.bind (f n)) Q := by
 subst h
 exact k
theorem Ep.ite {α : Type} {c : Prop} [Decidable c] {f g : Nat → Option α} {Q : α → Prop} (h : c → Ep f Q) (k : ¬ c → Ep g Q) : Ep (fun n => if c then f n else g n) Q := by
 by_cases hc : c
 ·simp only [hc, if_true]
  exact h hc
 ·simp only [hc, if_false]
  exact k hc
theorem Ep.pos {α : Type} {c : Prop} [Decidable c] {f g : Nat → Option α} {Q : α → Prop} (hc : c) (h : Ep f Q) : Ep (fun n => if c then f n else g n) Q := Ep.ite (fun _ => h) (fun k => absurd hc k)
theorem Ep.neg {α : Type} {c : Prop} [Decidable c] {f g : Nat → Option α} {Q : α → Prop} (hc : ¬ c) (h : Ep g Q) : Ep (fun n => if c then f n else g n) Q := Ep.ite (fun k => absurd k hc) (fun _ => h)
theorem Ep.rounds {α : Type} {g : Nat → Option α} {r : α} (h : Ep g (· = r)) : ∃ k, g k = some r := by
 obtain ⟨q, rfl, K, hK⟩ := h
 exact ⟨K, hK K (Nat.le_refl _)⟩
def Wf (k : IntKind) (x : Int) : Prop := (Lit.int k x).wf = true
theorem Wf.i64 {x : Int} (h : Wf .i64 x) : -9223372036854775808 ≤ x ∧ x ≤ 9223372036854775807 := by
 simpa [Wf, Lit.wf, IntKind.min, IntKind.max, IntKind.signed, IntKind.bits] using h
def SL {α : Type} (Q : α → Prop) (l : List α) : Prop := l.length ≤ 9223372036854775807 ∧ ∀ x ∈ l, Q x
theorem wrap_id {x : Int} (h0 : -9223372036854775808 ≤ x) (h1 : x ≤ 9223372036854775807) : wrap64 x = x := by
 unfold wrap64
 omega
theorem rd_nat (xs : List Int) (i : Nat) : rd xs (i : Int) = xs.getD i 0 := by simp [rd]
theorem rd_get {xs : List Int} {i : Nat} (h : i < xs.length) : rd xs (i : Int) = xs[i] := by simp [rd, List.getD, h]
end Go.Proofs.Ytnbljcgdgblgoaa.Cf
end

section
namespace Go.Proofs.Ytnbljcgdgblgoaa.Cf
set_option linter.unusedVariables false
set_option linter.unusedSimpArgs false
def Adj (es : List E) (a b : Int) : Prop := ∃ e ∈ es, (e.f0 = a ∧ e.f1 = b) ∨ (e.f0 = b ∧ e.f1 = a)
theorem Adj.symm {es : List E} {a b : Int} (h : Adj es a b) : Adj es b a := by
 obtain ⟨e, he, h⟩ := h
 exact ⟨e, he, h.symm⟩
inductive Conn (es : List E) (a : Int) : Int → Prop
 | refl : Conn es a a
 | tail {b c : Int} : Conn es a b → Adj es b c → Conn es a c
theorem Conn.trans {es : List E} {a b c : Int} (h : Conn es a b) (k : Conn es b c) : Conn es a c := by
 induction k with
 | refl => exact h
 | tail _ hadj ih => exact ih.tail hadj
theorem Conn.one {es : List E} {a b : Int} (h : Adj es a b) : Conn es a b := Conn.refl.tail h
theorem Conn.symm {es : List E} {a b : Int} (h : Conn es a b) : Conn es b a := by
 induction h with
 | refl => exact .refl
 | tail _ hadj ih => exact (Conn.one hadj.symm).trans ih
theorem Conn.closed {es : List E} {S : Int → Prop} (hS : ∀ a b, S a → Adj es a b → S b) {a b : Int} (h : Conn es a b) (ha : S a) : S b := by
 induction h with
 | refl => exact ha
 | tail _ hadj ih => exact hS _ _ ih hadj
def EOk (n : Int) (e : E) : Prop := 0 ≤ e.f0 ∧ e.f0 < e.f1 ∧ e.f1 < n
instance decEOk (n : Int) (e : E) : Decidable (EOk n e) := by unfold EOk; infer_instance
def EsOk (n : Int) (es : List E) : Prop := 1 ≤ n ∧ n ≤ 6 ∧ es.length ≤ 12 ∧ ∀ e ∈ es, EOk n e
instance decEsOk (n : Int) (es : List E) : Decidable (EsOk n es) := by unfold EsOk; infer_instance
def leE (a b : E) : Prop := a.f0 < b.f0 ∨ (a.f0 = b.f0 ∧ a.f1 ≤ b.f1)
instance decLeE (a b : E) : Decidable (leE a b) := by unfold leE; infer_instance
def Sorted (es : List E) : Prop := ∀ i, (h : i + 1 < es.length) → leE es[i] es[i + 1]
def Joined (n : Int) (es : List E) : Prop := ∀ v, 0 ≤ v → v < n → Conn es 0 v
def GOk (n : Int) (es : List E) : Prop := EsOk n es ∧ Sorted es ∧ Joined n es
instance decSorted (es : List E) : Decidable (Sorted es) := decidable_of_iff (∀ i, (h : i < es.length - 1) → leE (es[i]'(by omega)) (es[i + 1]'(by omega))) ⟨fun h i hi => h i (by omega), fun h i hi => h i (by omega)⟩
theorem EsOk.adj {n : Int} {es : List E} (h : ∀ e ∈ es, EOk n e) {a b : Int} (hab : Adj es a b) : 0 ≤ b ∧ b < n := by
 obtain ⟨e, he, hx⟩ := hab
 have := h e he
 unfold EOk at this
 omega
def stepM (m : Nat) (e : E) : Nat := if m.testBit e.f0.toNat || m.testBit e.f1.toNat then m ||| (2 ^ e.f0.toNat ||| 2 ^ e.f1.toNat) else m
def roundM (es : List E) (m : Nat) : Nat := es.foldl stepM m
def timesM (es : List E) : Nat → Nat → Nat
 | 0, m => m
 | k + 1, m => timesM es k (roundM es m)
theorem testBit_step {m : Nat} {e : E} {i : Nat} : (stepM m e).testBit i = (m.testBit i || ((m.testBit e.f0.toNat || m.testBit e.f1.toNat) && (i == e.f0.toNat || i == e.f1.toNat))) := by
 unfold stepM
 by_cases h : (m.testBit e.f0.toNat || m.testBit e.f1.toNat) = true
 ·rw [if_pos h, h]
  simp only [Nat.testBit_or, Nat.testBit_two_pow, Bool.true_and]
  congr 1
  rw [Bool.eq_iff_iff]
  simp only [Bool.or_eq_true, decide_eq_true_eq, beq_iff_eq]
  omega
 ·rw [if_neg h]
  simp only [Bool.not_eq_true] at h
  rw [h]
  simp
theorem step_mono {m : Nat} {e : E} {i : Nat} (h : m.testBit i = true) : (stepM m e).testBit i = true := by rw [testBit_step, h]; rfl
theorem round_mono (es : List E) : ∀ {m : Nat} {i : Nat}, m.testBit i = true → (roundM es m).testBit i = true := by
 induction es with
 | nil => intro m i h; exact h
 | cons e r ih => intro m i h; exact ih (step_mono h)
theorem times_mono (es : List E) : ∀ (k : Nat) {m : Nat} {i : Nat}, m.testBit i = true → (timesM es k m).testBit i = true
 | 0, _, _, h => h
 | k + 1, _, _, h => times_mono es k (round_mono es h)
def MOk (es : List E) (n : Int) (m : Nat) : Prop := ∀ i : Nat, m.testBit i = true → (i : Int) < n ∧ Conn es 0 i
theorem step_ok {es : List E} {n : Int} {m : Nat} {e : E} (he : e ∈ es) (hk : EOk n e) (h : MOk es n m) : MOk es n (stepM m e) := by
 intro i hi
 rw [testBit_step] at hi
 simp only [Bool.or_eq_true, Bool.and_eq_true, beq_iff_eq] at hi
 unfold EOk at hk
 have e0 : ((e.f0.toNat : Nat) : Int) = e.f0 := by omega
 have e1 : ((e.f1.toNat : Nat) : Int) = e.f1 := by omega
 rcases hi with hi | ⟨hm, hi⟩
 ·exact h i hi
 ·have key : Conn es 0 e.f0 ∧ Conn es 0 e.f1 := by
   rcases hm with hm | hm
   ·have := (h _ hm).2
    rw [e0] at this
    exact ⟨this, this.tail ⟨e, he, .inl ⟨rfl, rfl⟩⟩⟩
   ·have := (h _ hm).2
    rw [e1] at this
    exact ⟨this.tail ⟨e, he, .inr ⟨rfl, rfl⟩⟩, this⟩
  rcases hi with hi | hi
  ·subst hi
   rw [e0]
   exact ⟨by omega, key.1⟩
  ·subst hi
   rw [e1]
   exact ⟨by omega, key.2⟩
theorem round_ok {es : List E} {n : Int} (hes : ∀ e ∈ es, EOk n e) : ∀ (fs : List E), (∀ e ∈ fs, e ∈ es) → ∀ {m : Nat}, MOk es n m → MOk es n (roundM fs m) := by
 intro fs
 induction fs with
 | nil => intro _ m h; exact h
 | cons e r ih =>
  intro hs m h
  have he := hs e (List.mem_cons_self)
  exact ih (fun x hx => hs x (List.mem_cons_of_mem _ hx)) (step_ok he (hes e he) h)
theorem times_ok {es : List E} {n : Int} (hes : ∀ e ∈ es, EOk n e) : ∀ (k : Nat) {m : Nat}, MOk es n m → MOk es n (timesM es k m)
 | 0, _, h => h
 | k + 1, _, h => times_ok hes k (round_ok hes es (fun _ h => h) h)
def cnt (n : Nat) (m : Nat) : Nat := (List.range n).countP (m.testBit ·)
theorem cnt_le (n m : Nat) : cnt n m ≤ n := by
 unfold cnt
 have := List.countP_le_length (p := fun i => m.testBit i) (l := List.range n)
 simpa using this
theorem countP_lt {α : Type} {p q : α → Bool} : ∀ {l : List α}, (∀ x ∈ l, p x = true → q x = true) → (∃ x ∈ l, p x = false ∧ q x = true) → l.countP p < l.countP q
 | [], _, h => by obtain ⟨x, hx, _⟩ := h; cases hx
 | y :: r, hpq, h => by
  have hle : r.countP p ≤ r.countP q := List.countP_mono_left (fun x hx => hpq x (List.mem_cons_of_mem _ hx))
  simp only [List.countP_cons]
  by_cases hy : p y = false ∧ q y = true
  ·rw [hy.1, hy.2]
   simp
   omega
  ·have hr : r.countP p < r.countP q := by
    apply countP_lt (fun x hx => hpq x (List.mem_cons_of_mem _ hx))
    obtain ⟨x, hx, h1⟩ := h
    rcases List.mem_cons.1 hx with rfl | hx
    ·exact absurd h1 hy
    ·exact ⟨x, hx, h1⟩
   have h2 := hpq y List.mem_cons_self
   by_cases hp : p y = true
   ·rw [hp, h2 hp]
    simp
    omega
   ·simp only [hp, if_false, Bool.not_eq_true] at *
    simp
    split <;> omega
theorem cnt_lt {n m m' : Nat} (h : ∀ i, m.testBit i = true → m'.testBit i = true) (hx : ∃ i, i < n ∧ m.testBit i = false ∧ m'.testBit i = true) : cnt n m < cnt n m' := by
 obtain ⟨i, hi, h1⟩ := hx
 exact countP_lt (fun x _ => h x) ⟨i, List.mem_range.2 hi, h1⟩
theorem round_fix_step {es : List E} : ∀ (fs : List E) {m : Nat}, (∀ i, (roundM fs m).testBit i = true → m.testBit i = true) → ∀ e ∈ fs, m.testBit e.f0.toNat = m.testBit e.f1.toNat := by
 intro fs
 induction fs with
 | nil => intro m _ e he; cases he
 | cons a r ih =>
  intro m h e he
  have hst : ∀ i, (stepM m a).testBit i = true → m.testBit i = true := fun i hi => h i (round_mono r hi)
  have heq : stepM m a = m := by
   apply Nat.eq_of_testBit_eq
   intro i
   rw [Bool.eq_iff_iff]
   exact ⟨hst i, step_mono⟩
  rcases List.mem_cons.1 he with rfl | he
  ·have h0 := hst e.f0.toNat
   have h1 := hst e.f1.toNat
   rw [testBit_step] at h0 h1
   simp only [beq_self_eq_true, Bool.true_or, Bool.or_true, Bool.and_true, Bool.or_eq_true] at h0 h1
   rw [Bool.eq_iff_iff]
   exact ⟨fun hx => h1 (.inr (.inl hx)), fun hx => h0 (.inr (.inr hx))⟩
  ·have : roundM (a :: r) m = roundM r m := by show roundM r (stepM m a) = _; rw [heq]
   exact ih (fun i hi => h i (by rw [this]; exact hi)) e he
theorem closed_of_fix {es : List E} {n : Int} (hes : ∀ e ∈ es, EOk n e) {m : Nat} (h : ∀ i, (roundM es m).testBit i = true → m.testBit i = true) (h0 : m.testBit 0 = true) (i : Nat) (hi : Conn es 0 i) : m.testBit i = true := by
 have hf := round_fix_step (es := es) es h
 have key : ∀ v : Int, Conn es 0 v → 0 ≤ v ∧ m.testBit v.toNat = true := by
  intro v hv
  refine hv.closed (S := fun v => 0 ≤ v ∧ m.testBit v.toNat = true) ?_ ⟨by omega, h0⟩
  rintro a b ⟨ha, hb⟩ ⟨e, he, hx⟩
  have hk := hes e he
  unfold EOk at hk
  rcases hx with ⟨h1, h2⟩ | ⟨h1, h2⟩
  ·subst h1; subst h2
   exact ⟨by omega, by rw [← hf e he]; exact hb⟩
  ·subst h1; subst h2
   exact ⟨by omega, by rw [hf e he]; exact hb⟩
 have := (key i hi).2
 simpa using this
theorem times_grow {es : List E} {n : Nat} (hes : ∀ e ∈ es, EOk n e) : ∀ (k : Nat) {m : Nat}, MOk es n m → m.testBit 0 = true →
  (∀ i : Nat, Conn es 0 i → (timesM es k m).testBit i = true) ∨ k + cnt n m ≤ cnt n (timesM es k m)
 | 0, m, _, _ => .inr (by simp [timesM])
 | k + 1, m, hm, h0 => by
  by_cases hfix : ∀ i, (roundM es m).testBit i = true → m.testBit i = true
  ·left
   intro i hi
   exact times_mono es (k + 1) (closed_of_fix hes hfix h0 i hi)
  ·obtain ⟨i, hi⟩ := Classical.not_forall.1 hfix
   have hi1 : (roundM es m).testBit i = true := Classical.byContradiction fun hc => hi (fun x => absurd x hc)
   have hi2 : m.testBit i = false := by
    cases hb : m.testBit i with
    | false => rfl
    | true => exact absurd (fun _ => hb) hi
   have hok := round_ok hes es (fun _ h => h) hm
   have hlt : cnt n m < cnt n (roundM es m) := cnt_lt (fun j hj => round_mono es hj) ⟨i, by have := (hok i hi1).1; omega, hi2, hi1⟩
   rcases times_grow hes k hok (round_mono es h0) with h | h
   ·exact .inl h
   ·right
    show k + 1 + _ ≤ cnt n (timesM es k (roundM es m))
    omega
theorem cnt_full {n m : Nat} (h : n ≤ cnt n m) : ∀ i, i < n → m.testBit i = true := by
 intro i hi
 apply Classical.byContradiction
 intro hc
 have hc' : m.testBit i = false := by simpa using hc
 have : cnt n m < cnt n (2 ^ n - 1) := by
  refine countP_lt (fun x hx _ => ?_) ⟨i, List.mem_range.2 hi, hc', ?_⟩
  ·rw [Nat.testBit_two_pow_sub_one]; simpa using hx
  ·rw [Nat.testBit_two_pow_sub_one]; simpa using hi
 have := cnt_le n (2 ^ n - 1)
 omega
theorem times_joined {es : List E} {n : Nat} (h1 : 1 ≤ n) (hes : ∀ e ∈ es, EOk n e) : timesM es n 1 = 2 ^ n - 1 ↔ Joined n es := by
 have hm1 : MOk es n 1 := by
  intro i hi
  have : i = 0 := by simpa [Nat.testBit_one_eq_true_iff_self_eq_zero] using hi
  subst this
  exact ⟨by omega, .refl⟩
 have h0 : (1 : Nat).testBit 0 = true := by decide
 have hok := times_ok hes n hm1
 constructor
 ·intro h v hv0 hvn
  have := hok v.toNat (by rw [h, Nat.testBit_two_pow_sub_one]; simp; omega)
  have e : ((v.toNat : Nat) : Int) = v := by omega
  rw [e] at this
  exact this.2
 ·intro hj
  have hall : ∀ i, i < n → (timesM es n 1).testBit i = true := by
   rcases times_grow hes n hm1 h0 with h | h
   ·exact fun i hi => h i (hj i (by omega) (by omega))
   ·have : n ≤ cnt n (timesM es n 1) := by omega
    exact cnt_full this
  apply Nat.eq_of_testBit_eq
  intro i
  rw [Nat.testBit_two_pow_sub_one, Bool.eq_iff_iff]
  simp only [decide_eq_true_eq]
  refine ⟨fun h => ?_, fun h => hall i h⟩
  have := (hok i h).1
  omega
def gOk (n : Int) (es : List E) : Bool := decide (EsOk n es) && (decide (Sorted es) && decide (timesM es n.toNat 1 = 2 ^ n.toNat - 1))
theorem gOk_iff {n : Int} {es : List E} : gOk n es = true ↔ GOk n es := by
 unfold gOk GOk
 simp only [Bool.and_eq_true, decide_eq_true_eq]
 constructor
 ·rintro ⟨h1, h2, h3⟩
  have h := h1
  unfold EsOk at h
  obtain ⟨m, rfl⟩ := Int.eq_ofNat_of_zero_le (a := n) (by omega)
  exact ⟨h1, h2, (times_joined (n := m) (by omega) h.2.2.2).1 h3⟩
 ·rintro ⟨h1, h2, h3⟩
  have h := h1
  unfold EsOk at h
  obtain ⟨m, rfl⟩ := Int.eq_ofNat_of_zero_le (a := n) (by omega)
  exact ⟨h1, h2, (times_joined (n := m) (by omega) h.2.2.2).2 h3⟩
def QOk (es : List E) (n : Int) (q : List Int) : Prop := q.Nodup ∧ ∀ v ∈ q, (0 ≤ v ∧ v < n) ∧ Conn es 0 v
theorem nodup_len : ∀ (n : Nat) (l : List Int), l.Nodup → (∀ v ∈ l, 0 ≤ v ∧ v < n) → l.length ≤ n
 | 0, l, _, hv => by
  cases l with
  | nil => exact Nat.le_refl _
  | cons a r => have := hv a List.mem_cons_self; omega
 | n + 1, l, hl, hv => by
  by_cases hm : (n : Int) ∈ l
  ·have h1 := nodup_len n (l.erase n) (hl.erase _) (fun v hx => by
    have h2 := (hl.mem_erase_iff).1 hx
    have := hv v h2.2
    have := h2.1
    omega)
   rw [List.length_erase_of_mem hm] at h1
   omega
  ·have := nodup_len n l hl (fun v hx => by
    have := hv v hx
    have : v ≠ n := by rintro rfl; exact hm hx
    omega)
   omega
theorem len_nodup : ∀ (n : Nat) (l : List Int), (∀ i : Nat, i < n → (i : Int) ∈ l) → n ≤ l.length
 | 0, _, _ => Nat.zero_le _
 | n + 1, l, h => by
  have hm := h n (by omega)
  have := len_nodup n (l.erase n) (fun i hi => (List.mem_erase_of_ne (by omega)).2 (h i (by omega)))
  rw [List.length_erase_of_mem hm] at this
  have : 0 < l.length := List.length_pos_of_mem hm
  omega
theorem queue_joined {es : List E} {n : Nat} (h1 : 1 ≤ n) {q : List Int} (hq : QOk es n q) (h0 : (0 : Int) ∈ q) (hc : ∀ a ∈ q, ∀ b, Adj es a b → b ∈ q) : q.length = n ↔ Joined n es := by
 constructor
 ·intro hl v hv0 hvn
  have : v ∈ q := by
   apply Classical.byContradiction
   intro hv
   have := nodup_len n (v :: q) (List.nodup_cons.2 ⟨hv, hq.1⟩) (fun x hx => by
    rcases List.mem_cons.1 hx with rfl | hx
    ·exact ⟨hv0, hvn⟩
    ·exact (hq.2 x hx).1)
   simp at this
   omega
  exact (hq.2 v this).2
 ·intro hj
  have := nodup_len n q hq.1 (fun x hx => (hq.2 x hx).1)
  have := len_nodup n q (fun i hi => (hj i (by omega) (by omega)).closed (S := fun x => x ∈ q) (fun a b ha hab => hc a ha b hab) h0)
  omega
theorem QOk.push {es : List E} {n : Int} {q : List Int} (h : QOk es n q) {v : Int} (hv : v ∉ q) (h0 : 0 ≤ v ∧ v < n) (hc : Conn es 0 v) : QOk es n (q ++ [v]) := by
 refine ⟨?_, fun x hx => ?_⟩
 ·rw [List.nodup_append]
  exact ⟨h.1, by simp, fun a ha b hb => by
   rw [List.mem_singleton.1 hb]
   rintro rfl
   exact hv ha⟩
 ·rcases List.mem_append.1 hx with hx | hx
  ·exact h.2 x hx
  ·rw [List.mem_singleton.1 hx]
   exact ⟨h0, hc⟩
end Go.Proofs.Ytnbljcgdgblgoaa.Cf
end

section
namespace Go.Proofs.Ytnbljcgdgblgoaa.Cf
set_option linter.unusedVariables false
set_option linter.unusedSimpArgs false
open Go.RowKit Go.Proofs.YtnbljcgdgblgoaaW.PrintWords Go.Proofs.Ytnbljcgdgblgoaa.P
theorem wrap_succ {i : Nat} (h : i < 4611686018427387904) : wrap64 ((i : Int) + 1) = ((i + 1 : Nat) : Int) := by
 rw [wrap_id (by omega) (by omega)]
 omega
theorem eqIntS_l0 (x0 x1 : List Int) (h : x0.length ≤ 1048576) (hl : x0.length = x1.length) : ∀ (d i : Nat), i + d = x0.length → (∀ j, j < i → x0[j]? = x1[j]?) → Ep (fun k => laws_eqIntS.l0 k x0 x1 (i : Int)) (· = decide (x0 = x1)) := by
 intro d
 induction d with
 | zero =>
  intro i hi hx
  refine Ep.up ?_
  simp only [laws_eqIntS.l0]
  refine Ep.neg (by omega) (Ep.now ?_)
  have : x0 = x1 := by
   apply List.ext_getElem?
   intro j
   by_cases hj : j < i
   ·exact hx j hj
   ·rw [List.getElem?_eq_none (by omega), List.getElem?_eq_none (by omega)]
  simp [this]
 | succ d ih =>
  intro i hi hx
  refine Ep.up ?_
  simp only [laws_eqIntS.l0]
  refine Ep.pos (by omega) (Ep.pos (by omega) (Ep.pos (by omega) ?_))
  rw [rd_get (show i < x0.length by omega), rd_get (show i < x1.length by omega), wrap_succ (by omega)]
  refine Ep.ite (fun e => ?_) (fun e => Ep.now ?_)
  ·refine ih (i + 1) (by omega) ?_
   intro j hj
   by_cases ej : j = i
   ·subst ej
    rw [List.getElem?_eq_getElem (by omega), List.getElem?_eq_getElem (by omega), e]
   ·exact hx j (by omega)
  ·have : x0 ≠ x1 := by
    rintro rfl
    exact e rfl
   simp [this]
theorem eqIntS_any (x0 x1 : List Int) (h : x0.length ≤ 1048576) : Ep (fun k => laws_eqIntS.f k x0 x1) (· = decide (x0 = x1)) := by
 simp only [laws_eqIntS.f]
 refine Ep.ite (fun e => eqIntS_l0 x0 x1 h (by omega) x0.length 0 (by omega) (fun j hj => by omega)) (fun e => Ep.now ?_)
 have : x0 ≠ x1 := by
  rintro rfl
  exact e rfl
 simp [this]
theorem eqIntS_ok (x : List Int) (h : x.length ≤ 1048576) : Ep (fun k => laws_eqIntS.f k x x) (· = true) := (eqIntS_any x x h).mono (fun r hr => by rw [hr]; simp)
def marks (k : Int) (n : Nat) : List Int := (List.range n).map (fun i : Nat => k + i)
theorem marks_len (k : Int) (n : Nat) : (marks k n).length = n := by simp [marks]
theorem marks_get {k : Int} {n i : Nat} (h : i < n) : (marks k n)[i]? = some (k + i) := by simp [marks, h]
theorem markIntS_l0 (n : Nat) (a : Int) (hn : n ≤ 1048576) (ha : 0 ≤ a ∧ a ≤ 1099511627776) : ∀ (d i : Nat) (x0 : List Int), i + d = n → x0.length = n → (∀ j, j < i → x0[j]? = (marks a n)[j]?) → Ep (fun k => laws_markIntS.l0 k x0 (a + i) (i : Int)) (· = (a + n, marks a n)) := by
 intro d
 induction d with
 | zero =>
  intro i x0 hi hl hx
  refine Ep.up ?_
  simp only [laws_markIntS.l0]
  refine Ep.neg (by omega) (Ep.now ?_)
  have : x0 = marks a n := by
   apply List.ext_getElem?
   intro j
   by_cases hj : j < i
   ·exact hx j hj
   ·rw [List.getElem?_eq_none (by omega), List.getElem?_eq_none (by rw [marks_len]; omega)]
  rw [this]
  have : i = n := by omega
  rw [this]
 | succ d ih =>
  intro i x0 hi hl hx
  refine Ep.up ?_
  simp only [laws_markIntS.l0]
  refine Ep.pos (by omega) (Ep.pos (by omega) ?_)
  rw [wrap_succ (by omega), wrap_id (x := a + i + 1) (by omega) (by omega), show a + (i : Int) + 1 = a + ((i + 1 : Nat) : Int) by omega]
  refine ih (i + 1) _ (by omega) (by simpa using hl) ?_
  intro j hj
  rw [Int.toNat_natCast]
  by_cases e : i = j
  ·subst e
   rw [List.getElem?_set_self (by omega), marks_get (by omega)]
  ·rw [List.getElem?_set_ne e]
   exact hx j (by omega)
theorem markIntS_ok (x : List Int) (a : Int) (h : x.length ≤ 1048576) (ha : 0 ≤ a ∧ a ≤ 1099511627776) : Ep (fun k => laws_markIntS.f k x a) (· = (a + x.length, marks a x.length)) := by
 have := markIntS_l0 x.length a h ha x.length 0 x (by omega) rfl (fun j hj => by omega)
 simp only [laws_markIntS.f]
 simpa using this
theorem heldIntS_l0 (n : Nat) (a : Int) (hn : n ≤ 1048576) (ha : 0 ≤ a ∧ a ≤ 1099511627776) : ∀ (d i : Nat), i + d = n → Ep (fun k => laws_heldIntS.l0 k (marks a n) (a + i) (i : Int)) (· = a + n) := by
 intro d
 induction d with
 | zero =>
  intro i hi
  refine Ep.up ?_
  simp only [laws_heldIntS.l0]
  refine Ep.neg (by rw [marks_len]; omega) (Ep.now ?_)
  have : i = n := by omega
  rw [this]
 | succ d ih =>
  intro i hi
  refine Ep.up ?_
  simp only [laws_heldIntS.l0]
  refine Ep.pos (by rw [marks_len]; omega) (Ep.pos (by omega) (Ep.pos ?_ ?_))
  ·rw [rd_nat, List.getD_eq_getElem?_getD, marks_get (by omega)]
   rfl
  ·rw [wrap_succ (by omega), wrap_id (x := a + i + 1) (by omega) (by omega), show a + (i : Int) + 1 = a + ((i + 1 : Nat) : Int) by omega]
   exact ih (i + 1) (by omega)
theorem heldIntS_ok (n : Nat) (a : Int) (h : n ≤ 1048576) (ha : 0 ≤ a ∧ a ≤ 1099511627776) : Ep (fun k => laws_heldIntS.f k (marks a n) a) (· = a + n) := by
 have := heldIntS_l0 n a h ha n 0 (by omega)
 simp only [laws_heldIntS.f]
 simpa using this
theorem rdE_get {es : List E} {i : Nat} (h : i < es.length) : rd_T57 es (i : Int) = es[i] := by simp [rd_T57, List.getD, h]
theorem l01In_eq (a b c : Int) : spec_l01In.f a b c = some (decide (b ≤ a ∧ a ≤ c)) := by
 unfold spec_l01In.f
 by_cases h : a ≥ b
 ·rw [if_pos h]
  have : (b ≤ a ∧ a ≤ c) ↔ a ≤ c := ⟨fun x => x.2, fun x => ⟨h, x⟩⟩
  simp only [this]
 ·rw [if_neg h]
  have : ¬ (b ≤ a ∧ a ≤ c) := fun x => h x.1
  simp only [this, decide_false]
theorem forall_drop {es : List E} {P : E → Prop} {i : Nat} (h : i < es.length) : (∀ e ∈ es.drop i, P e) ↔ (P es[i] ∧ ∀ e ∈ es.drop (i + 1), P e) := by
 rw [List.drop_eq_getElem_cons h]
 simp only [List.mem_cons, forall_eq_or_imp]
theorem specEdges_l0 (n : Int) (hn : 1 ≤ n ∧ n ≤ 6) (es : List E) (hl : es.length ≤ 12) : ∀ (d i : Nat), i + d = es.length → Ep (fun k => spec_EdgesOk.l0 k es (es.length : Int) (i : Int) n es) (· = decide (∀ e ∈ es.drop i, EOk n e)) := by
 intro d
 induction d with
 | zero =>
  intro i hi
  refine Ep.up ?_
  simp only [spec_EdgesOk.l0]
  refine Ep.neg (by omega) (Ep.now ?_)
  rw [List.drop_of_length_le (by omega)]
  simp
 | succ d ih =>
  intro i hi
  have hlt : i < es.length := by omega
  refine Ep.up ?_
  simp only [spec_EdgesOk.l0]
  refine Ep.pos (by omega) (Ep.pos (by omega) (Ep.pos (by omega) ?_))
  rw [rdE_get hlt, wrap_id (x := n - 1) (by omega) (by omega)]
  refine Ep.bind0 (l01In_eq _ _ _) ?_
  refine Ep.ite (fun h0 => ?_) (fun h0 => Ep.now ?_)
  ·have h0' : 0 ≤ es[i].f0 ∧ es[i].f0 ≤ n - 1 := by simpa using h0
   rw [wrap_id (x := es[i].f0 + 1) (by omega) (by omega)]
   refine Ep.bind0 (l01In_eq _ _ _) ?_
   refine Ep.ite (fun h1 => ?_) (fun h1 => Ep.now ?_)
   ·have h1' : es[i].f0 + 1 ≤ es[i].f1 ∧ es[i].f1 ≤ n - 1 := by simpa using h1
    rw [wrap_succ (by omega)]
    refine (ih (i + 1) (by omega)).mono ?_
    rintro _ rfl
    have : EOk n es[i] := by unfold EOk; omega
    simp only [forall_drop hlt, this, true_and]
   ·have h1' : ¬ (es[i].f0 + 1 ≤ es[i].f1 ∧ es[i].f1 ≤ n - 1) := by simpa using h1
    have : ¬ EOk n es[i] := by unfold EOk; omega
    simp only [forall_drop hlt, this, false_and, decide_false]
  ·have h0' : ¬ (0 ≤ es[i].f0 ∧ es[i].f0 ≤ n - 1) := by simpa using h0
   have : ¬ EOk n es[i] := by unfold EOk; omega
   simp only [forall_drop hlt, this, false_and, decide_false]
theorem specEdges (n : Int) (es : List E) : Ep (fun k => spec_EdgesOk.f k n es) (· = decide (EsOk n es)) := by
 simp only [spec_EdgesOk.f]
 refine Ep.bind0 (l01In_eq _ _ _) ?_
 refine Ep.ite (fun h0 => ?_) (fun h0 => ?_)
 ·have h0' : 1 ≤ n ∧ n ≤ 6 := by simpa using h0
  refine Ep.up ?_
  simp only [spec_EdgesOk.j0]
  refine Ep.ite (fun h1 => Ep.now ?_) (fun h1 => ?_)
  ·have : ¬ EsOk n es := by
    have : (es.length : Int) > 12 := by simpa using h1
    unfold EsOk
    omega
   simp [this]
  ·have hl : es.length ≤ 12 := by
    have : ¬ (es.length : Int) > 12 := by simpa using h1
    omega
   refine (specEdges_l0 n h0' es hl es.length 0 (by omega)).mono ?_
   rintro _ rfl
   rw [List.drop_zero]
   unfold EsOk
   simp only [h0'.1, h0'.2, hl, true_and]
 ·have h0' : ¬ (1 ≤ n ∧ n ≤ 6) := by simpa using h0
  refine Ep.up ?_
  simp only [spec_EdgesOk.j0]
  refine Ep.pos (by simp) (Ep.now ?_)
  have : ¬ EsOk n es := by
   unfold EsOk
   omega
  simp [this]
theorem specHas_l0 (x : Int) (l : List Int) (hl : l.length ≤ 1048576) : ∀ (d i : Nat), i + d = l.length → Ep (fun k => spec_l02Has.l0 k x l (l.length : Int) (i : Int)) (· = decide (x ∈ l.drop i)) := by
 intro d
 induction d with
 | zero =>
  intro i hi
  refine Ep.up ?_
  simp only [spec_l02Has.l0]
  refine Ep.neg (by omega) (Ep.now ?_)
  rw [List.drop_of_length_le (by omega)]
  simp
 | succ d ih =>
  intro i hi
  have hlt : i < l.length := by omega
  refine Ep.up ?_
  simp only [spec_l02Has.l0]
  refine Ep.pos (by omega) (Ep.pos (by omega) (Ep.pos (by omega) ?_))
  rw [rd_get hlt, wrap_succ (by omega), List.drop_eq_getElem_cons hlt]
  refine Ep.ite (fun h => Ep.now ?_) (fun h => ?_)
  ·simp only [List.mem_cons, h, true_or, decide_true]
  ·refine (ih (i + 1) (by omega)).mono ?_
   rintro _ rfl
   have : ¬ x = l[i] := fun e => h e.symm
   simp only [List.mem_cons, this, false_or]
theorem specHas (l : List Int) (x : Int) (hl : l.length ≤ 1048576) : Ep (fun k => spec_l02Has.f k l x) (· = decide (x ∈ l)) := by
 have := specHas_l0 x l hl l.length 0 (by omega)
 simp only [spec_l02Has.f]
 exact this
structure BInv (es : List E) (n : Nat) (q : List Int) (a i : Nat) (u : Int) : Prop where
 ok : QOk es n q
 zero : (0 : Int) ∈ q
 done : ∀ x ∈ q.take a, ∀ b, Adj es x b → b ∈ q
 at_ : q[a]? = some u
 part : ∀ e ∈ es.take i, (e.f0 = u → e.f1 ∈ q) ∧ (e.f1 = u → e.f0 ∈ q)
theorem BInv.lt {es : List E} {n : Nat} {q : List Int} {a i : Nat} {u : Int} (h : BInv es n q a i u) : a < q.length := by
 apply Classical.byContradiction
 intro hc
 have := h.at_
 rw [List.getElem?_eq_none (by omega)] at this
 cases this
theorem BInv.len {es : List E} {n : Nat} {q : List Int} {a i : Nat} {u : Int} (h : BInv es n q a i u) : q.length ≤ n := nodup_len n q h.ok.1 (fun v hv => (h.ok.2 v hv).1)
theorem BInv.rd {es : List E} {n : Nat} {q : List Int} {a i : Nat} {u : Int} (h : BInv es n q a i u) : rd q (a : Int) = u := by
 rw [rd_nat, List.getD_eq_getElem?_getD, h.at_]
 rfl
theorem BInv.push {es : List E} {n : Nat} {q : List Int} {a i : Nat} {u v : Int} (hes : ∀ e ∈ es, EOk n e) (h : BInv es n q a i u) (hv : v ∉ q) (hadj : Adj es u v) : BInv es n (q ++ [v]) a i u where
 ok := by
  have hu : u ∈ q := List.mem_of_getElem? h.at_
  exact h.ok.push hv (EsOk.adj hes hadj) ((h.ok.2 u hu).2.tail hadj)
 zero := List.mem_append_left _ h.zero
 done := fun x hx b hb => by
  rw [List.take_append_of_le_length (by have := h.lt; omega)] at hx
  exact List.mem_append_left _ (h.done x hx b hb)
 at_ := by rw [List.getElem?_append_left h.lt]; exact h.at_
 part := fun e he => ⟨fun x => List.mem_append_left _ ((h.part e he).1 x), fun x => List.mem_append_left _ ((h.part e he).2 x)⟩
theorem BInv.next {es : List E} {n : Nat} {q : List Int} {a i : Nat} {u : Int} (h : BInv es n q a i u) (hi : i < es.length) (h0 : es[i].f0 = u → es[i].f1 ∈ q) (h1 : es[i].f1 = u → es[i].f0 ∈ q) : BInv es n q a (i + 1) u where
 ok := h.ok
 zero := h.zero
 done := h.done
 at_ := h.at_
 part := fun e he => by
  rw [List.take_succ_eq_append_getElem hi] at he
  rcases List.mem_append.1 he with he | he
  ·exact h.part e he
  ·rw [List.mem_singleton.1 he]
   exact ⟨h0, h1⟩
theorem specReach_l1 (n : Nat) (hn : n ≤ 6) (es : List E) (hl : es.length ≤ 12) (hes : ∀ e ∈ es, EOk n e) (a : Nat) (u : Int) {Q : List Int → Prop}
  (hk : ∀ q, BInv es n q a es.length u → Ep (fun k => spec_l02Reach.l0 k q ((a + 1 : Nat) : Int) (n : Int) es) Q) :
  ∀ (d i : Nat) (q : List Int), i + d = es.length → BInv es n q a i u → Ep (fun k => spec_l02Reach.l1 k q (a : Int) es (es.length : Int) (i : Int) (n : Int) es) Q := by
 intro d
 induction d with
 | zero =>
  intro i q hi hb
  refine Ep.up ?_
  simp only [spec_l02Reach.l1]
  refine Ep.neg (by omega) ?_
  have := hb.lt
  have := hb.len
  rw [wrap_succ (by omega)]
  have e : i = es.length := by omega
  subst e
  exact hk q hb
 | succ d ih =>
  intro i q hi hb
  have hlt : i < es.length := by omega
  have hal := hb.lt
  have hql := hb.len
  have he := hes es[i] (List.getElem_mem hlt)
  have heok := he
  unfold EOk at he
  have hadj : Adj es es[i].f0 es[i].f1 := ⟨es[i], List.getElem_mem hlt, .inl ⟨rfl, rfl⟩⟩
  -- the second test, behind the first
  have second : ∀ q', BInv es n q' a i u → (es[i].f0 = u → es[i].f1 ∈ q') → Ep (fun k => if (0 : Int) ≤ (a : Int) then (if (a : Int) < (q'.length : Int) then (if es[i].f1 = rd q' (a : Int) then ((spec_l02Has.f k q' es[i].f0).bind fun t => (if t = true then (spec_l02Reach.l1 k q' (a : Int) es (es.length : Int) (wrap64 ((i : Int) + 1)) (n : Int) es) else (if q'.length < 17592186044416 then (spec_l02Reach.l1 k (q' ++ [es[i].f0]) (a : Int) es (es.length : Int) (wrap64 ((i : Int) + 1)) (n : Int) es) else (none)))) else (spec_l02Reach.l1 k q' (a : Int) es (es.length : Int) (wrap64 ((i : Int) + 1)) (n : Int) es)) else (none)) else (none)) Q := by
   intro q' hb' h0
   have hal' := hb'.lt
   have hql' := hb'.len
   refine Ep.pos (by omega) (Ep.pos (by omega) ?_)
   rw [hb'.rd, wrap_succ (by omega)]
   refine Ep.ite (fun h1 => ?_) (fun h1 => ih (i + 1) q' (by omega) (hb'.next hlt h0 (fun x => absurd x h1)))
   refine Ep.bind (specHas q' _ (by omega)) ?_
   rintro _ rfl
   refine Ep.ite (fun h2 => ih (i + 1) q' (by omega) (hb'.next hlt h0 (fun _ => by simpa using h2))) (fun h2 => Ep.pos (by omega) ?_)
   have h2' : es[i].f0 ∉ q' := by simpa using h2
   have hb2 := hb'.push hes h2' (by rw [← h1]; exact hadj.symm)
   exact ih (i + 1) _ (by omega) (hb2.next hlt (fun x => List.mem_append_left _ (h0 x)) (fun _ => by simp))
  refine Ep.up ?_
  simp only [spec_l02Reach.l1]
  refine Ep.pos (by omega) (Ep.pos (by omega) (Ep.pos (by omega) (Ep.pos (by omega) (Ep.pos (by omega) ?_))))
  rw [rdE_get hlt, hb.rd]
  refine Ep.ite (fun h0 => ?_) (fun h0 => ?_)
  ·refine Ep.bind (specHas q _ (by omega)) ?_
   rintro _ rfl
   refine Ep.up ?_
   simp only [spec_l02Reach.j2]
   refine Ep.ite (fun h1 => Ep.pos (by omega) ?_) (fun h1 => second q hb (fun _ => by simpa using h1))
   have h1' : es[i].f1 ∉ q := by simpa using h1
   refine Ep.bind0 rfl ?_
   exact second _ (hb.push hes h1' (by rw [← h0]; exact hadj)) (fun _ => by simp)
  ·refine Ep.up ?_
   simp only [spec_l02Reach.j2]
   exact Ep.neg (by simp) (second q hb (fun x => absurd x h0))
theorem specReach_l0 (n : Nat) (hn : 1 ≤ n ∧ n ≤ 6) (es : List E) (hl : es.length ≤ 12) (hes : ∀ e ∈ es, EOk n e) : ∀ (d a : Nat) (q : List Int), a + d = 7 → a ≤ q.length → QOk es n q → (0 : Int) ∈ q → (∀ x ∈ q.take a, ∀ b, Adj es x b → b ∈ q) →
  Ep (fun k => spec_l02Reach.l0 k q (a : Int) (n : Int) es) (fun r => (r.length = n ↔ Joined n es) ∧ r.length ≤ 6) := by
 intro d
 induction d with
 | zero =>
  intro a q ha hq hok _ _
  have := nodup_len n q hok.1 (fun v hv => (hok.2 v hv).1)
  omega
 | succ d ih =>
  intro a q ha hq hok h0 hdone
  have hlen := nodup_len n q hok.1 (fun v hv => (hok.2 v hv).1)
  refine Ep.up ?_
  simp only [spec_l02Reach.l0]
  refine Ep.ite (fun hlt => ?_) (fun hge => Ep.now ?_)
  ·have hlt' : a < q.length := by omega
   have hb : BInv es n q a 0 q[a] := ⟨hok, h0, hdone, List.getElem?_eq_getElem hlt', fun e he => by simp at he⟩
   refine specReach_l1 n hn.2 es hl hes a q[a] ?_ es.length 0 q (by omega) hb
   intro q' hb'
   refine ih (a + 1) q' (by omega) (by have := hb'.lt; omega) hb'.ok hb'.zero ?_
   intro x hx b hadj
   have hal := hb'.lt
   rw [List.take_succ_eq_append_getElem hal] at hx
   rcases List.mem_append.1 hx with hx | hx
   ·exact hb'.done x hx b hadj
   ·have hx' : x = q'[a] := List.mem_singleton.1 hx
    have hu : q'[a] = q[a] := by
     have := hb'.at_
     rw [List.getElem?_eq_getElem hal] at this
     exact Option.some.inj this
    obtain ⟨e, he, h⟩ := hadj
    have hp := hb'.part e (by rw [List.take_of_length_le (Nat.le_refl _)]; exact he)
    rcases h with ⟨x0, x1⟩ | ⟨x0, x1⟩
    ·rw [← x1]
     exact hp.1 (by rw [x0, hx', hu])
    ·rw [← x0]
     exact hp.2 (by rw [x1, hx', hu])
  ·have hfull : q.take a = q := List.take_of_length_le (by omega)
   rw [hfull] at hdone
   exact ⟨queue_joined hn.1 hok h0 hdone, by omega⟩
theorem specReach (n : Nat) (hn : 1 ≤ n ∧ n ≤ 6) (es : List E) (hl : es.length ≤ 12) (hes : ∀ e ∈ es, EOk n e) : Ep (fun k => spec_l02Reach.f k (n : Int) es) (fun r => (r.length = n ↔ Joined n es) ∧ r.length ≤ 6) := by
 simp only [spec_l02Reach.f]
 refine specReach_l0 n hn es hl hes 7 0 [0] rfl (by simp) ⟨by simp, fun v hv => ?_⟩ (by simp) (fun x hx => by simp at hx)
 rw [List.mem_singleton.1 hv]
 exact ⟨⟨Int.le_refl _, by omega⟩, .refl⟩
def SortedTo (es : List E) (i : Nat) : Prop := ∀ j, (h : j + 1 < es.length) → j + 1 < i → leE es[j] es[j + 1]
theorem specGraph_l0 (n : Nat) (es : List E) (hes : EsOk n es) : ∀ (d i : Nat), i + d = es.length → SortedTo es i → Ep (fun k => spec_GraphOk.l0 k es (es.length : Int) (i : Int) (n : Int) es) (· = gOk n es) := by
 have hes' := hes
 obtain ⟨hn1, hn6, hl, hok⟩ := hes
 intro d
 induction d with
 | zero =>
  intro i hi hs
  refine Ep.up ?_
  simp only [spec_GraphOk.l0]
  refine Ep.neg (by omega) ?_
  refine Ep.bind (specReach n (by omega) es hl hok) ?_
  rintro r ⟨hr, _⟩
  refine Ep.now ?_
  have hsorted : Sorted es := fun j h => hs j h (by omega)
  have hiff : GOk n es ↔ Joined n es := ⟨fun h => h.2.2, fun h => ⟨hes', hsorted, h⟩⟩
  by_cases hj : Joined n es
  ·have : gOk n es = true := gOk_iff.2 (hiff.2 hj)
   rw [this, hr.2 hj]
   simp
  ·have : gOk n es = false := by
    cases hg : gOk n es with
    | false => rfl
    | true => exact absurd (hiff.1 (gOk_iff.1 hg)) hj
   rw [this]
   have hne : r.length ≠ n := fun e => hj (hr.1 e)
   simp
   omega
 | succ d ih =>
  intro i hi hs
  have hlt : i < es.length := by omega
  have hbad : ∀ j, i = j + 1 → (hj : j < es.length) → ¬ leE es[j] es[i] → gOk n es = false := by
   intro j hij hj hx
   subst hij
   cases hg : gOk n es with
   | false => rfl
   | true => exact absurd ((gOk_iff.1 hg).2.1 j hlt) hx
  have hgood : (∀ j, i = j + 1 → (hj : j < es.length) → leE es[j] es[i]) → Ep (fun k => spec_GraphOk.l0 k es (es.length : Int) (wrap64 ((i : Int) + 1)) (n : Int) es) (· = gOk n es) := by
   intro hx
   rw [wrap_succ (by omega)]
   refine ih (i + 1) (by omega) ?_
   intro j h hji
   by_cases e : j + 1 < i
   ·exact hs j h e
   ·have e' : i = j + 1 := by omega
    have := hx j e' (by omega)
    subst e'
    exact this
  refine Ep.up ?_
  simp only [spec_GraphOk.l0]
  refine Ep.pos (by omega) (Ep.pos (by omega) (Ep.pos (by omega) ?_))
  refine Ep.ite (fun hpos => ?_) (fun hz => hgood (fun j hij _ => by omega))
  obtain ⟨j, rfl⟩ : ∃ j, i = j + 1 := ⟨i - 1, by omega⟩
  have hw : wrap64 (((j + 1 : Nat) : Int) - 1) = (j : Int) := by rw [wrap_id (by omega) (by omega)]; omega
  rw [hw, rdE_get hlt, rdE_get (show j < es.length by omega)]
  refine Ep.pos (by omega) (Ep.pos (by omega) ?_)
  refine Ep.ite (fun h0 => Ep.now ?_) (fun h0 => ?_)
  ·exact (hbad j rfl (by omega) (by unfold leE; omega)).symm
  ·refine Ep.ite (fun h1 => ?_) (fun h1 => hgood (fun j' hij _ => ?_))
   ·refine Ep.ite (fun h2 => Ep.now ?_) (fun h2 => hgood (fun j' hij _ => ?_))
    ·exact (hbad j rfl (by omega) (by unfold leE; omega)).symm
    ·obtain rfl : j' = j := by omega
     unfold leE
     omega
   ·obtain rfl : j' = j := by omega
    unfold leE
    omega
theorem specGraph (n : Int) (es : List E) : Ep (fun k => spec_GraphOk.f k n es) (· = gOk n es) := by
 simp only [spec_GraphOk.f]
 refine Ep.bind (specEdges n es) ?_
 rintro _ rfl
 refine Ep.ite (fun h => ?_) (fun h => Ep.now ?_)
 ·have h' : EsOk n es := by simpa using h
  have h1 := h'.1
  obtain ⟨m, rfl⟩ := Int.eq_ofNat_of_zero_le (a := n) (by omega)
  exact specGraph_l0 m es h' es.length 0 (by omega) (fun j h hj => by omega)
 ·have h' : ¬ EsOk n es := by simpa using h
  cases hg : gOk n es with
  | false => rfl
  | true => exact absurd (gOk_iff.1 hg).1 h'
end Go.Proofs.Ytnbljcgdgblgoaa.Cf
end

section
namespace Go.Proofs.Ytnbljcgdgblgoaa.Cf
set_option linter.unusedVariables false
set_option linter.unusedSimpArgs false
open Go.RowKit Go.Proofs.YtnbljcgdgblgoaaW.PrintWords Go.Proofs.YtnbljcgdgblgoaaW.PrintMore Go.Proofs.Ytnbljcgdgblgoaa.P
theorem within_eq (a b c : Int) : impl_within.f a b c = some (decide (b ≤ a ∧ a ≤ c)) := by
 unfold impl_within.f
 by_cases h : a ≥ b
 ·rw [if_pos h]
  have : (b ≤ a ∧ a ≤ c) ↔ a ≤ c := ⟨fun x => x.2, fun x => ⟨h, x⟩⟩
  simp only [this]
 ·rw [if_neg h]
  have : ¬ (b ≤ a ∧ a ≤ c) := fun x => h x.1
  simp only [this, decide_false]
theorem implEdges_l0 (n : Int) (es : List E) (hl : es.length ≤ 12) : ∀ (d i : Nat), i + d = es.length → Ep (fun k => impl_EdgesOk.l0 k es (es.length : Int) (i : Int) n es) (· = decide (∀ e ∈ es.drop i, EOk n e)) := by
 intro d
 induction d with
 | zero =>
  intro i hi
  refine Ep.up ?_
  simp only [impl_EdgesOk.l0]
  refine Ep.neg (by omega) (Ep.now ?_)
  rw [List.drop_of_length_le (by omega)]
  simp
 | succ d ih =>
  intro i hi
  have hlt : i < es.length := by omega
  have no : ¬ EOk n es[i] → false = decide (∀ e ∈ es.drop i, EOk n e) := fun h => by simp only [forall_drop hlt, h, false_and, decide_false]
  refine Ep.up ?_
  simp only [impl_EdgesOk.l0]
  refine Ep.pos (by omega) (Ep.pos (by omega) (Ep.pos (by omega) ?_))
  rw [rdE_get hlt]
  refine Ep.ite (fun h => Ep.now (no (by unfold EOk; omega))) (fun h0 => ?_)
  refine Ep.ite (fun h => Ep.now (no (by unfold EOk; omega))) (fun h1 => ?_)
  refine Ep.ite (fun h => Ep.now (no (by unfold EOk; omega))) (fun h2 => ?_)
  rw [wrap_succ (by omega)]
  refine (ih (i + 1) (by omega)).mono ?_
  rintro _ rfl
  have : EOk n es[i] := by unfold EOk; omega
  simp only [forall_drop hlt, this, true_and]
theorem implEdges (n : Int) (es : List E) : Ep (fun k => impl_EdgesOk.f k n es) (· = decide (EsOk n es)) := by
 simp only [impl_EdgesOk.f]
 refine Ep.bind0 (within_eq _ _ _) ?_
 refine Ep.ite (fun h0 => ?_) (fun h0 => ?_)
 ·have h0' : 1 ≤ n ∧ n ≤ 6 := by simpa using h0
  refine Ep.up ?_
  simp only [impl_EdgesOk.j0]
  refine Ep.ite (fun h1 => Ep.now ?_) (fun h1 => ?_)
  ·have : ¬ EsOk n es := by
    have : (es.length : Int) > 12 := by simpa using h1
    unfold EsOk
    omega
   simp [this]
  ·have hl : es.length ≤ 12 := by
    have : ¬ (es.length : Int) > 12 := by simpa using h1
    omega
   refine (implEdges_l0 n es hl es.length 0 (by omega)).mono ?_
   rintro _ rfl
   rw [List.drop_zero]
   unfold EsOk
   simp only [h0'.1, h0'.2, hl, true_and]
 ·have h0' : ¬ (1 ≤ n ∧ n ≤ 6) := by simpa using h0
  refine Ep.up ?_
  simp only [impl_EdgesOk.j0]
  refine Ep.pos (by simp) (Ep.now ?_)
  have : ¬ EsOk n es := by
   unfold EsOk
   omega
  simp [this]
theorem wraps_i64 (n : Int) (h0 : 0 ≤ n) (h1 : n < 2 ^ 62) : IntKind.i64.wrap n = n := by rw [IntKind.wrap_i64]; omega
theorem or_nat {a b : Nat} (ha : a < 2 ^ 62) (hb : b < 2 ^ 62) : Go.bits .or .i64 (a : Int) (b : Int) = ((a ||| b : Nat) : Int) := (bits_nat .i64 62 (by decide) wraps_i64 a b ha hb).2
theorem and_nat {a b : Nat} (ha : a < 2 ^ 62) (hb : b < 2 ^ 62) : Go.bits .and .i64 (a : Int) (b : Int) = ((a &&& b : Nat) : Int) := (bits_nat .i64 62 (by decide) wraps_i64 a b ha hb).1
theorem shl_nat {a : Nat} (ha : a < 62) : shl .i64 1 (a : Int) = ((2 ^ a : Nat) : Int) := by
 unfold shl
 have : (2 : Int) ^ a < 2 ^ 62 := by
  have := Nat.pow_lt_pow_right (a := 2) (by decide) ha
  exact_mod_cast this
 rw [Int.toNat_natCast, Nat.min_eq_left (by show a ≤ 64; omega), Int.one_mul, wraps_i64 _ (by have := Int.pow_nonneg (n := 2) (m := a) (by decide); omega) this]
 simp
theorem shr_nat {m a : Nat} (ha : a < 62) : shr .i64 (m : Int) (a : Int) = ((m / 2 ^ a : Nat) : Int) := by
 unfold shr
 rw [Int.toNat_natCast, Nat.min_eq_left (by show a ≤ 64; omega)]
 simp
theorem bit_test {m : Nat} (hm : m < 2 ^ 62) {a : Nat} (ha : a < 62) : Go.bits .and .i64 (shr .i64 (m : Int) (a : Int)) 1 = 1 ↔ m.testBit a = true := by
 rw [shr_nat ha, show (1 : Int) = ((1 : Nat) : Int) from rfl, and_nat (Nat.lt_of_le_of_lt (Nat.div_le_self _ _) hm) (by decide)]
 rw [Nat.testBit_eq_decide_div_mod_eq, Nat.and_one_is_mod]
 generalize m / 2 ^ a = x
 simp only [decide_eq_true_eq]
 omega
theorem bit_cases {m a : Nat} : m.testBit a = true ∨ m.testBit a = false := by cases m.testBit a <;> simp
theorem MOk.lt {es : List E} {n m : Nat} (h : MOk es n m) (hn : n ≤ 6) : m < 2 ^ 6 := by
 apply Nat.lt_pow_two_of_testBit
 intro i hi
 cases hb : m.testBit i with
 | false => rfl
 | true => have := (h i hb).1; omega
theorem step_lt {m : Nat} {e : E} {n : Int} (hm : m < 2 ^ 6) (he : EOk n e) (hn : n ≤ 6) : stepM m e < 2 ^ 6 := by
 unfold EOk at he
 unfold stepM
 split
 ·apply Nat.or_lt_two_pow hm
  apply Nat.or_lt_two_pow
  ·exact Nat.pow_lt_pow_right (by decide) (by omega)
  ·exact Nat.pow_lt_pow_right (by decide) (by omega)
 ·exact hm
theorem round_lt {n : Int} (hn : n ≤ 6) : ∀ (es : List E), (∀ e ∈ es, EOk n e) → ∀ {m : Nat}, m < 2 ^ 6 → roundM es m < 2 ^ 6 := by
 intro es
 induction es with
 | nil => intro _ m h; exact h
 | cons e r ih => intro hes m h; exact ih (fun x hx => hes x (List.mem_cons_of_mem _ hx)) (step_lt h (hes e List.mem_cons_self) hn)
open Classical in
noncomputable def joinedB (n : Int) (es : List E) : Bool := decide (Joined n es)
theorem joinedB_iff {n : Int} {es : List E} : joinedB n es = true ↔ Joined n es := by unfold joinedB; simp
theorem implConn_l1 (n : Int) (hn : n ≤ 6) (es : List E) (hl : es.length ≤ 1048576) (hes : ∀ e ∈ es, EOk n e) (x8 x9 : Int) {Q : Bool → Prop} (m0 : Nat)
  (hk : Ep (fun k => impl_connected.l0 k n es ((roundM es m0 : Nat) : Int) x8 (wrap64 (x9 + 1))) Q) :
  ∀ (d i : Nat) (m : Nat), i + d = es.length → m < 2 ^ 6 → roundM (es.drop i) m = roundM es m0 → Ep (fun k => impl_connected.l1 k n es (m : Int) x8 x9 es (es.length : Int) (i : Int)) Q := by
 intro d
 induction d with
 | zero =>
  intro i m hi hm hr
  refine Ep.up ?_
  simp only [impl_connected.l1]
  refine Ep.neg (by omega) ?_
  rw [List.drop_of_length_le (by omega)] at hr
  have e : m = roundM es m0 := hr
  rw [e]
  exact hk
 | succ d ih =>
  intro i m hi hm hr
  have hlt : i < es.length := by omega
  have hek := hes es[i] (List.getElem_mem hlt)
  have he := hek
  unfold EOk at he
  rw [List.drop_eq_getElem_cons hlt] at hr
  have hr' : roundM (es.drop (i + 1)) (stepM m es[i]) = roundM es m0 := hr
  have hst := step_lt hm hek hn
  obtain ⟨a, ha⟩ := Int.eq_ofNat_of_zero_le he.1
  obtain ⟨b, hb⟩ := Int.eq_ofNat_of_zero_le (a := es[i].f1) (by omega)
  have ha6 : a < 6 := by omega
  have hb6 : b < 6 := by omega
  have hm62 : m < 2 ^ 62 := by omega
  have pa : 2 ^ a < 2 ^ 6 := Nat.pow_lt_pow_right (by decide) ha6
  have pb : 2 ^ b < 2 ^ 6 := Nat.pow_lt_pow_right (by decide) hb6
  have pab : 2 ^ a ||| 2 ^ b < 2 ^ 6 := Nat.or_lt_two_pow pa pb
  have hset : Go.bits .or .i64 (m : Int) (Go.bits .or .i64 (shl .i64 1 (a : Int)) (shl .i64 1 (b : Int))) = ((m ||| (2 ^ a ||| 2 ^ b) : Nat) : Int) := by
   rw [shl_nat (by omega), shl_nat (by omega), or_nat (by omega) (by omega), or_nat (by omega) (by omega)]
  have hstep : (m.testBit a || m.testBit b) = true → stepM m es[i] = m ||| (2 ^ a ||| 2 ^ b) := by
   intro h
   unfold stepM
   rw [ha, hb]
   simp only [Int.ofNat_eq_natCast, Int.toNat_natCast]
   rw [if_pos h]
  have hstay : (m.testBit a || m.testBit b) = false → stepM m es[i] = m := by
   intro h
   unfold stepM
   rw [ha, hb]
   simp only [Int.ofNat_eq_natCast, Int.toNat_natCast]
   rw [if_neg (by rw [h]; simp)]
  refine Ep.up ?_
  simp only [impl_connected.l1]
  refine Ep.pos (by omega) (Ep.pos (by omega) (Ep.pos (by omega) ?_))
  rw [rdE_get hlt, ha, hb]
  refine Ep.pos (by omega) ?_
  rw [hset, wrap_succ (by omega)]
  refine Ep.ite (fun h => Ep.pos (by omega) ?_) (fun h => Ep.pos (by omega) (Ep.ite (fun h2 => ?_) (fun h2 => ?_)))
  ·have := (bit_test hm62 (by omega)).1 h
   rw [← hstep (by rw [this]; rfl)]
   exact ih (i + 1) _ (by omega) hst hr'
  ·have := (bit_test hm62 (by omega)).1 h2
   rw [← hstep (by rw [this]; simp)]
   exact ih (i + 1) _ (by omega) hst hr'
  ·have h1 : m.testBit a = false := by
    rcases bit_cases (m := m) (a := a) with x | x
    ·exact absurd ((bit_test hm62 (by omega)).2 x) h
    ·exact x
   have h3 : m.testBit b = false := by
    rcases bit_cases (m := m) (a := b) with x | x
    ·exact absurd ((bit_test hm62 (by omega)).2 x) h2
    ·exact x
   have := hstay (by rw [h1, h3]; rfl)
   rw [this] at hr'
   exact ih (i + 1) _ (by omega) hm hr'
theorem implConn_l0 (n : Nat) (hn : 1 ≤ n ∧ n ≤ 6) (es : List E) (hl : es.length ≤ 1048576) (hes : ∀ e ∈ es, EOk n e) : ∀ (d i m : Nat), i + d = n → m < 2 ^ 6 → timesM es d m = timesM es n 1 → Ep (fun k => impl_connected.l0 k (n : Int) es (m : Int) (n : Int) (i : Int)) (· = joinedB n es) := by
 intro d
 induction d with
 | zero =>
  intro i m hi hm hr
  refine Ep.up ?_
  simp only [impl_connected.l0]
  refine Ep.neg (by omega) (Ep.pos (by omega) (Ep.now ?_))
  have hr' : m = timesM es n 1 := hr
  have hp : 1 ≤ 2 ^ n := Nat.one_le_two_pow
  have hp2 : 2 ^ n ≤ 2 ^ 6 := Nat.pow_le_pow_right (by decide) hn.2
  rw [shl_nat (by omega), wrap_id (by omega) (by omega)]
  rw [Bool.eq_iff_iff, joinedB_iff, ← times_joined hn.1 hes, ← hr']
  simp only [beq_iff_eq]
  omega
 | succ d ih =>
  intro i m hi hm hr
  refine Ep.up ?_
  simp only [impl_connected.l0]
  refine Ep.pos (by omega) ?_
  refine implConn_l1 n (by omega) es hl hes _ _ m ?_ es.length 0 m (by omega) hm (by rw [List.drop_zero])
  rw [wrap_succ (by omega)]
  exact ih (i + 1) _ (by omega) (round_lt (by omega) es hes hm) hr
theorem implConn (n : Nat) (hn : 1 ≤ n ∧ n ≤ 6) (es : List E) (hl : es.length ≤ 1048576) (hes : ∀ e ∈ es, EOk n e) : Ep (fun k => impl_connected.f k (n : Int) es) (· = joinedB n es) := by
 simp only [impl_connected.f]
 exact implConn_l0 n hn es hl hes n 0 1 (by omega) (by decide) rfl
end Go.Proofs.Ytnbljcgdgblgoaa.Cf
end

section
namespace Go.Proofs.Ytnbljcgdgblgoaa.P
open Go.RowKit Go.Proofs.YtnbljcgdgblgoaaW.PrintWords Go.Proofs.YtnbljcgdgblgoaaW.PrintLast Go.Proofs.YtnbljcgdgblgoaaW.PrintMore
attribute [local go_sem] max2_int min2_int max_two min_two max_three min_three max_four min_four
set_option linter.unusedVariables false
set_option linter.unusedSimpArgs false
def cmp_isNaN_int.f (a0 : Int) : Option (Bool) := some (a0 != a0)
theorem cmp_isNaN_int.calls (a0 : Int) (r : Bool) (w : World) (h : cmp_isNaN_int.f a0 = some r) :
  Calls Try.prog 133 #[.int .i64 a0] w fun e w' => e = .returned (.bool r) ∧ Drawn0 w w' := by
 have H : (some (a0 != a0)) = some r := h; clear h; obtain rfl := Option.some.inj H; go_enter Try.func133, Try.ntmps133; go_wp2; go_ret; exact ⟨zz5, by repeat (first | exact Drawn0.refl _ | apply Drawn0.step)⟩
def cmp_Compare_int.f (a0 : Int) (a1 : Int) : Option (Int) := (cmp_isNaN_int.f a0).bind fun dF => ((cmp_isNaN_int.f a1).bind fun aZ => (if dF = true then (if aZ = true then (some 0) else (some (-1))) else (if aZ = true then (some 1) else (if a0 < a1 then (some (-1)) else (if a0 > a1 then (some 1) else (some 0))))))
theorem cmp_Compare_int.calls (a0 : Int) (a1 : Int) (r : Int) (w : World) (h : cmp_Compare_int.f a0 a1 = some r) :
  Calls Try.prog 100 #[.int .i64 a0, .int .i64 a1] w fun e w' => e = .returned (.int .i64 r) ∧ Drawn0 w w' := by
 have H : ((cmp_isNaN_int.f a0).bind fun dF => ((cmp_isNaN_int.f a1).bind fun aZ => (if dF = true then (if aZ = true then (some 0) else (some (-1))) else (if aZ = true then (some 1) else (if a0 < a1 then (some (-1)) else (if a0 > a1 then (some 1) else (some 0))))))) = some r := h; clear h; obtain ⟨dF, A30, H⟩ := zO_ H; (try dsimp only at H); have A3 := zK_ A30; clear A30; obtain ⟨aZ, A40, H⟩ := zO_ H; (try dsimp only at H); have A4 := zK_ A40; clear A40; by_cases c5 : dF = true
 ·subst c5; rw [if_pos rfl] at H; by_cases c6 : aZ = true
  ·subst c6; rw [if_pos rfl] at H; obtain rfl := Option.some.inj H; go_enter Try.func100, Try.ntmps100; (go_wp2_with (first | ((with_reducible refine gate_callee (f := 133) rfl ?_); refine goesL_ (some 8) rfl rfl Try.func133 (by kernel_rfl) rfl #[.int .i64 a0] rfl zz4 ?_; (with_reducible refine (cmp_isNaN_int.calls a0 true _ A3.out).mono ?_); rintro e w' ⟨rfl, ⟨nd, rfl⟩⟩; refine ⟨_, rfl, ?_⟩) | ((with_reducible refine gate_callee (f := 133) rfl ?_); refine goesL_ (some 10) rfl rfl Try.func133 (by kernel_rfl) rfl #[.int .i64 a1] rfl zz4 ?_; (with_reducible refine (cmp_isNaN_int.calls a1 true _ A4.out).mono ?_); rintro e w' ⟨rfl, ⟨nd, rfl⟩⟩; refine ⟨_, rfl, ?_⟩))); go_ret; exact ⟨zz5, by repeat (first | exact Drawn0.refl _ | apply Drawn0.step)⟩
  replace c6 := Bool.eq_false_iff.mpr c6; subst c6; rw [if_neg (show ¬ (false = true) by decide)] at H; obtain rfl := Option.some.inj H; go_enter Try.func100, Try.ntmps100; (go_wp2_with (first | ((with_reducible refine gate_callee (f := 133) rfl ?_); refine goesL_ (some 8) rfl rfl Try.func133 (by kernel_rfl) rfl #[.int .i64 a0] rfl zz4 ?_; (with_reducible refine (cmp_isNaN_int.calls a0 true _ A3.out).mono ?_); rintro e w' ⟨rfl, ⟨nd, rfl⟩⟩; refine ⟨_, rfl, ?_⟩) | ((with_reducible refine gate_callee (f := 133) rfl ?_); refine goesL_ (some 10) rfl rfl Try.func133 (by kernel_rfl) rfl #[.int .i64 a1] rfl zz4 ?_; (with_reducible refine (cmp_isNaN_int.calls a1 false _ A4.out).mono ?_); rintro e w' ⟨rfl, ⟨nd, rfl⟩⟩; refine ⟨_, rfl, ?_⟩))); go_ret; exact ⟨zz5, by repeat (first | exact Drawn0.refl _ | apply Drawn0.step)⟩
 replace c5 := Bool.eq_false_iff.mpr c5; subst c5; rw [if_neg (show ¬ (false = true) by decide)] at H; by_cases c7 : aZ = true
 ·subst c7; rw [if_pos rfl] at H; obtain rfl := Option.some.inj H; go_enter Try.func100, Try.ntmps100; (go_wp2_with (first | ((with_reducible refine gate_callee (f := 133) rfl ?_); refine goesL_ (some 8) rfl rfl Try.func133 (by kernel_rfl) rfl #[.int .i64 a0] rfl zz4 ?_; (with_reducible refine (cmp_isNaN_int.calls a0 false _ A3.out).mono ?_); rintro e w' ⟨rfl, ⟨nd, rfl⟩⟩; refine ⟨_, rfl, ?_⟩) | ((with_reducible refine gate_callee (f := 133) rfl ?_); refine goesL_ (some 10) rfl rfl Try.func133 (by kernel_rfl) rfl #[.int .i64 a1] rfl zz4 ?_; (with_reducible refine (cmp_isNaN_int.calls a1 true _ A4.out).mono ?_); rintro e w' ⟨rfl, ⟨nd, rfl⟩⟩; refine ⟨_, rfl, ?_⟩))); go_ret; exact ⟨zz5, by repeat (first | exact Drawn0.refl _ | apply Drawn0.step)⟩
 replace c7 := Bool.eq_false_iff.mpr c7; subst c7; rw [if_neg (show ¬ (false = true) by decide)] at H; by_cases c8 : a0 < a1
 ·rw [if_pos c8] at H; have fP := decide_eq_true c8; clear c8; obtain rfl := Option.some.inj H; go_enter Try.func100, Try.ntmps100; (go_wp2_with (first | ((with_reducible refine gate_callee (f := 133) rfl ?_); refine goesL_ (some 8) rfl rfl Try.func133 (by kernel_rfl) rfl #[.int .i64 a0] rfl zz4 ?_; (with_reducible refine (cmp_isNaN_int.calls a0 false _ A3.out).mono ?_); rintro e w' ⟨rfl, ⟨nd, rfl⟩⟩; refine ⟨_, rfl, ?_⟩) | ((with_reducible refine gate_callee (f := 133) rfl ?_); refine goesL_ (some 10) rfl rfl Try.func133 (by kernel_rfl) rfl #[.int .i64 a1] rfl zz4 ?_; (with_reducible refine (cmp_isNaN_int.calls a1 false _ A4.out).mono ?_); rintro e w' ⟨rfl, ⟨nd, rfl⟩⟩; refine ⟨_, rfl, ?_⟩))); go_ret; exact ⟨zz5, by repeat (first | exact Drawn0.refl _ | apply Drawn0.step)⟩
 rw [if_neg c8] at H; have fP := decide_eq_false c8; clear c8; by_cases c9 : a0 > a1
 ·rw [if_pos c9] at H; have fN : decide (a1 < a0) = true := decide_eq_true c9; clear c9; obtain rfl := Option.some.inj H; go_enter Try.func100, Try.ntmps100; (go_wp2_with (first | ((with_reducible refine gate_callee (f := 133) rfl ?_); refine goesL_ (some 8) rfl rfl Try.func133 (by kernel_rfl) rfl #[.int .i64 a0] rfl zz4 ?_; (with_reducible refine (cmp_isNaN_int.calls a0 false _ A3.out).mono ?_); rintro e w' ⟨rfl, ⟨nd, rfl⟩⟩; refine ⟨_, rfl, ?_⟩) | ((with_reducible refine gate_callee (f := 133) rfl ?_); refine goesL_ (some 10) rfl rfl Try.func133 (by kernel_rfl) rfl #[.int .i64 a1] rfl zz4 ?_; (with_reducible refine (cmp_isNaN_int.calls a1 false _ A4.out).mono ?_); rintro e w' ⟨rfl, ⟨nd, rfl⟩⟩; refine ⟨_, rfl, ?_⟩))); go_ret; exact ⟨zz5, by repeat (first | exact Drawn0.refl _ | apply Drawn0.step)⟩
 rw [if_neg c9] at H; have fN : decide (a1 < a0) = false := decide_eq_false c9; clear c9; obtain rfl := Option.some.inj H; go_enter Try.func100, Try.ntmps100; (go_wp2_with (first | ((with_reducible refine gate_callee (f := 133) rfl ?_); refine goesL_ (some 8) rfl rfl Try.func133 (by kernel_rfl) rfl #[.int .i64 a0] rfl zz4 ?_; (with_reducible refine (cmp_isNaN_int.calls a0 false _ A3.out).mono ?_); rintro e w' ⟨rfl, ⟨nd, rfl⟩⟩; refine ⟨_, rfl, ?_⟩) | ((with_reducible refine gate_callee (f := 133) rfl ?_); refine goesL_ (some 10) rfl rfl Try.func133 (by kernel_rfl) rfl #[.int .i64 a1] rfl zz4 ?_; (with_reducible refine (cmp_isNaN_int.calls a1 false _ A4.out).mono ?_); rintro e w' ⟨rfl, ⟨nd, rfl⟩⟩; refine ⟨_, rfl, ?_⟩))); go_ret; exact ⟨zz5, by repeat (first | exact Drawn0.refl _ | apply Drawn0.step)⟩
def impl_compareEdges.f (aD : Int) (dQ : Int) (dX : Int) (gT : Int) : Option (Int) := (cmp_Compare_int.f aD dX).bind fun bN => (if bN = 0 then ((cmp_Compare_int.f dQ gT).bind fun i7 => (some i7)) else (some bN))
theorem impl_compareEdges.calls (aD : Int) (dQ : Int) (dX : Int) (gT : Int) (r : Int) (w : World) (h : impl_compareEdges.f aD dQ dX gT = some r) :
  Calls Try.prog 92 #[.agg #[.int .i64 aD, .int .i64 dQ], .agg #[.int .i64 dX, .int .i64 gT]] w fun e w' => e = .returned (.int .i64 r) ∧ Below w.heap.size w w' := by
 have hu57 := Try.underlying57; have HB := zK_ (Below.refl w.heap.size w); have H : ((cmp_Compare_int.f aD dX).bind fun bN => (if bN = 0 then ((cmp_Compare_int.f dQ gT).bind fun i7 => (some i7)) else (some bN))) = some r := h; clear h; obtain ⟨bN, A30, H⟩ := zO_ H; (try dsimp only at H); have A3 := zK_ A30; clear A30; by_cases c4 : bN = 0; rotate_left
 ·rw [if_neg c4] at H; have dB : (bN == 0) = false := beq_eq_false_iff_ne.mpr c4; have jQ : (bN != 0) = true := bne_iff_ne.mpr c4; obtain rfl := Option.some.inj H; go_enter Try.func92, Try.ntmps92; (go_wp2_with (first | ((with_reducible refine gate_dst (N := 2) rfl ?_); refine box_event ?hg (N := 2) ?hd (cs := #[.int .i64 aD, .int .i64 dQ]) (t := 57) ?hr ?_; (case hd => rfl); (case hg => rfl); (case hr => exact zz9); intro aE hg w11 hbox hb; have n_ := zA4 (below_step zz1 hb) hbox (zz10 : w.heap.size ≤ aE) (zz10 : w.heap.size ≤ aE); clear HB; obtain ⟨HB, aC, GW101, GE101⟩ := n_; clear hb hbox hg) | ((with_reducible refine gate_dst (N := 3) rfl ?_); refine box_event ?hg (N := 3) ?hd (cs := #[.int .i64 dX, .int .i64 gT]) (t := 57) ?hr ?_; (case hd => rfl); (case hg => rfl); (case hr => exact zz9); intro a7 hg w12 hbox hb; have n_ := zA7 (blk_below (g := aE) (o := .cells #[.int .i64 aD, .int .i64 dQ] 57 (0, 0)) zz2 hb) (below_step zz0 hb) hbox (zz13 : w.heap.size ≤ a7) (zz13 : w.heap.size ≤ a7) (zz49 : aE ≠ a7) (zz50 : a7 ≠ aE); clear aC HB; obtain ⟨aC, HB, aT, GW102, GE102, bR, bV⟩ := n_; clear hb hbox hg; have oQ := bR.out; have oP := bV.out; have eQ := zC20 aC; have eO := zC21 aC; have eH := blk_frozen aC.out 0; have eG := blk_frozen aC.out 1; have gQ := zC20 aT; have gP := zC21 aT; have gO := blk_frozen aT.out 0; have gN := blk_frozen aT.out 1) | ((with_reducible refine gate_callee (f := 100) rfl ?_); refine goesL_ (some 10) rfl rfl Try.func100 (by kernel_rfl) rfl #[.int .i64 aD, .int .i64 dX] rfl zz4 ?_; (with_reducible refine (cmp_Compare_int.calls aD dX bN _ A3.out).mono ?_); rintro e w' ⟨rfl, ⟨nd, rfl⟩⟩; refine ⟨_, rfl, ?_⟩))); go_ret; exact ⟨zz7, zz14⟩
 rw [if_pos c4] at H; have dB : (bN == 0) = true := beq_iff_eq.mpr c4; have jQ : (bN != 0) = false := bne_eq_false_iff_eq.mpr c4; clear c4; obtain ⟨i7, A50, H⟩ := zO_ H; (try dsimp only at H); have A5 := zK_ A50; clear A50; obtain rfl := Option.some.inj H; go_enter Try.func92, Try.ntmps92; (go_wp2_with (first | ((with_reducible refine gate_dst (N := 2) rfl ?_); refine box_event ?hg (N := 2) ?hd (cs := #[.int .i64 aD, .int .i64 dQ]) (t := 57) ?hr ?_; (case hd => rfl); (case hg => rfl); (case hr => exact zz9); intro aE hg w6 hbox hb; have n_ := zA4 (below_step zz1 hb) hbox (zz10 : w.heap.size ≤ aE) (zz10 : w.heap.size ≤ aE); clear HB; obtain ⟨HB, aC, GW101, GE101⟩ := n_; clear hb hbox hg) | ((with_reducible refine gate_dst (N := 3) rfl ?_); refine box_event ?hg (N := 3) ?hd (cs := #[.int .i64 dX, .int .i64 gT]) (t := 57) ?hr ?_; (case hd => rfl); (case hg => rfl); (case hr => exact zz9); intro a7 hg w7 hbox hb; have n_ := zA7 (blk_below (g := aE) (o := .cells #[.int .i64 aD, .int .i64 dQ] 57 (0, 0)) zz2 hb) (below_step zz0 hb) hbox (zz13 : w.heap.size ≤ a7) (zz13 : w.heap.size ≤ a7) (zz49 : aE ≠ a7) (zz50 : a7 ≠ aE); clear aC HB; obtain ⟨aC, HB, aT, GW102, GE102, bR, bV⟩ := n_; clear hb hbox hg; have sF := bR.out; have sA := bV.out; have eJ := zC20 aC; have eI := zC21 aC; have d8 := blk_frozen aC.out 0; have d7 := blk_frozen aC.out 1; have cK := zC20 aT; have cJ := zC21 aT; have cI := blk_frozen aT.out 0; have cH := blk_frozen aT.out 1) | ((with_reducible refine gate_callee (f := 100) rfl ?_); refine goesL_ (some 10) rfl rfl Try.func100 (by kernel_rfl) rfl #[.int .i64 aD, .int .i64 dX] rfl zz4 ?_; (with_reducible refine (cmp_Compare_int.calls aD dX bN _ A3.out).mono ?_); rintro e w' ⟨rfl, ⟨nd, rfl⟩⟩; refine ⟨_, rfl, ?_⟩) | ((with_reducible refine gate_callee (f := 100) rfl ?_); refine goesL_ (some 18) rfl rfl Try.func100 (by kernel_rfl) rfl #[.int .i64 dQ, .int .i64 gT] rfl zz4 ?_; (with_reducible refine (cmp_Compare_int.calls dQ gT i7 _ A5.out).mono ?_); rintro e w' ⟨rfl, ⟨nd, rfl⟩⟩; refine ⟨_, rfl, ?_⟩))); go_ret; exact ⟨zz7, zz14⟩
end Go.Proofs.Ytnbljcgdgblgoaa.P
end

section
namespace Go.Proofs.Ytnbljcgdgblgoaa.Cf
set_option linter.unusedVariables false
set_option linter.unusedSimpArgs false
open Go.RowKit Go.Proofs.YtnbljcgdgblgoaaW.PrintWords Go.Proofs.YtnbljcgdgblgoaaW.PrintLast Go.Proofs.YtnbljcgdgblgoaaW.PrintMore Go.Proofs.Ytnbljcgdgblgoaa.P
def cmpI (a b : Int) : Int := if a < b then -1 else if a > b then 1 else 0
theorem cmp_eq (a b : Int) : cmp_Compare_int.f a b = some (cmpI a b) := by
 unfold cmp_Compare_int.f cmp_isNaN_int.f cmpI
 simp
 split <;> (try split) <;> rfl
def cmpE (a b : E) : Int := if cmpI a.f0 b.f0 = 0 then cmpI a.f1 b.f1 else cmpI a.f0 b.f0
theorem cmpE_eq (a b : E) : impl_compareEdges.f a.f0 a.f1 b.f0 b.f1 = some (cmpE a b) := by
 unfold impl_compareEdges.f cmpE
 rw [cmp_eq, cmp_eq]
 simp only [Option.bind_some]
 split <;> rfl
theorem cmpE_lt (a b : E) : cmpE a b < 0 ↔ ¬ leE b a := by
 unfold cmpE cmpI leE
 by_cases h : a.f0 < b.f0
 ·simp [h]; try omega
 ·by_cases h2 : a.f0 > b.f0
  ·simp [h, h2]; try omega
  ·by_cases h3 : a.f1 < b.f1
   ·simp [h, h2, h3]; try omega
   ·by_cases h4 : a.f1 > b.f1
    ·simp [h, h2, h3, h4]; try omega
    ·simp [h, h2, h3, h4]; try omega
open Classical in
noncomputable def sortedB (es : List E) : Bool := decide (Sorted es)
theorem sortedB_iff {es : List E} : sortedB es = true ↔ Sorted es := by unfold sortedB; simp
def SortedFrom (es : List E) (i : Nat) : Prop := ∀ j, i ≤ j → (h : j + 1 < es.length) → leE es[j] es[j + 1]
theorem SortedFrom.all {es : List E} (h : SortedFrom es 0) : sortedB es = true := sortedB_iff.2 (fun j hj => h j (Nat.zero_le _) hj)
theorem SortedFrom.none {es : List E} {i : Nat} (h : i + 1 < es.length) (hn : ¬ leE es[i] es[i + 1]) : sortedB es = false := by
 cases hb : sortedB es with
 | false => rfl
 | true => exact absurd (sortedB_iff.1 hb i h) hn
theorem SortedFrom.down {es : List E} {i : Nat} (h : SortedFrom es (i + 1)) (hi : i + 1 < es.length) (hl : leE es[i] es[i + 1]) : SortedFrom es i := by
 intro j hj hjl
 by_cases e : j = i
 ·subst e; exact hl
 ·exact h j (by omega) hjl
theorem isf_calls (es : List E) (A : Option Addr) (c : Nat) (w : World) (hr : Kd.C k57 w A es.length es) (hc : es.length ≤ c) :
  Calls Try.prog 91 #[.slice A es.length c, .func (.func 92) #[] #[]] w fun e w' => e = .returned (.bool (sortedB es)) ∧ Below w.heap.size w w' := by
 have hlen := hr.2.1
 have HR := Aside0.mk hr
 have HL := Aside0.mk hlen
 clear hr hlen
 have HB := Aside0.mk (Below.refl w.heap.size w)
 go_enter Try.func91, Try.ntmps91
 go_wp2
 go_loopw [5] (fun v wr => ∃ i : Int, v = .int .i64 i ∧ Aside0 (-1 ≤ i ∧ i < es.length ∧ SortedFrom es i.toNat) ∧ Aside0 (Below w.heap.size w wr)) (fun v _ => (intOf v + 1).toNat)
 case atStart => exact ⟨(es.length : Int) - 1, by rw [wrap_id (by have := HL.out; omega) (by have := HL.out; omega)], ⟨by omega, by omega, fun j hj hjl => by omega⟩, HB⟩
 case round =>
  obtain ⟨i, rfl, HI, HB⟩ := hrel
  by_cases h0 : 0 < i
  ·obtain ⟨j, hij⟩ : ∃ j : Nat, i = (j : Int) + 1 := ⟨(i - 1).toNat, by omega⟩
   have hj := HI.out.2.1
   have hl := HL.out
   have hw : wrap64 (i - 1) = (j : Int) := by rw [wrap_id (by omega) (by omega)]; omega
   have p1 : 0 ≤ i := by omega
   have p2 : 0 ≤ wrap64 (i - 1) := by omega
   have q2 : wrap64 (i - 1) < (es.length : Int) := by omega
   obtain ⟨ad, e, hx0, hx1⟩ := at_T57 HR.out i p1 hj
   cases e
   obtain ⟨ad', e, hy0, hy1⟩ := at_T57 HR.out (wrap64 (i - 1)) p2 q2
   cases e
   replace hx0 := (HB.out.cell (World.block_lt_of_cell? w _ hx0)).trans hx0
   replace hx1 := (HB.out.cell (World.block_lt_of_cell? w _ hx1)).trans hx1
   replace hy0 := (HB.out.cell (World.block_lt_of_cell? w _ hy0)).trans hy0
   replace hy1 := (HB.out.cell (World.block_lt_of_cell? w _ hy1)).trans hy1
   have c0 : decide (0 < i) = true := decide_eq_true h0
   replace p1 := eq_true p1
   have q1 := eq_true hj
   replace p2 := eq_true p2
   replace q2 := eq_true q2
   have HW := Aside0.mk hw
   have HIJ := Aside0.mk hij
   clear hj hl hw hij h0
   go_wp2
   go_still_tail 10, (by kernel_rfl)
   simp only [i64_w]
   repeat still_step
   refine wpStill_nil ?_
   change wpList _ _ _ _ _ wr.drew
   have HB' := Aside0.mk (below_drew1 HB.out)
   clear HB hx0 hx1 hy0 hy1
   generalize wr.drew = w2 at HB' ⊢
   have HX := Aside0.mk (cmpE_eq (rd_T57 es i) (rd_T57 es (wrap64 (i - 1))))
   have HC := Aside0.mk (cmpE_lt (rd_T57 es i) (rd_T57 es (wrap64 (i - 1))))
   generalize cmpE (rd_T57 es i) (rd_T57 es (wrap64 (i - 1))) = z at HX HC
   have HE : Aside0 (∃ hj : j + 1 < es.length, rd_T57 es i = es[j + 1] ∧ rd_T57 es (wrap64 (i - 1)) = es[j]) := by
    have hj : j + 1 < es.length := by
     have := HI.out.2.1
     have := HIJ.out
     omega
    have e1 : i = ((j + 1 : Nat) : Int) := by have := HIJ.out; omega
    refine ⟨hj, ?_, ?_⟩
    ·rw [e1, rdE_get hj]
    ·rw [HW.out, rdE_get (by omega)]
   by_cases hz : z < 0
   ·have cz : decide (z < 0) = true := decide_eq_true hz
    have HZ := Aside0.mk hz
    clear hz
    go_wp2_with fail
    refine (impl_compareEdges.calls _ _ _ _ z _ HX.out).mono ?_
    rintro e w3 ⟨rfl, hb⟩
    go_wp2
    go_ret
    obtain ⟨hj, e1, e2⟩ := HE.out
    have hs := SortedFrom.none hj (by rw [← e1, ← e2]; exact HC.out.1 HZ.out)
    exact ⟨by rw [hs]; rfl, below_step HB'.out hb⟩
   ·have cz : decide (z < 0) = false := decide_eq_false hz
    have HZ := Aside0.mk hz
    clear hz
    go_wp2_with fail
    refine (impl_compareEdges.calls _ _ _ _ z _ HX.out).mono ?_
    rintro e w3 ⟨rfl, hb⟩
    have HB2 := Aside0.mk (below_step HB'.out hb)
    clear hb
    go_wp2
    go_roundw
    case rel =>
     have hi := HI.out
     have hw := HW.out
     have hij := HIJ.out
     refine ⟨wrap64 (i - 1), rfl, ⟨by omega, by omega, ?_⟩, HB2⟩
     obtain ⟨hj, e1, e2⟩ := HE.out
     have hle : leE es[j] es[j + 1] := by
      rw [← e1, ← e2]
      apply Classical.byContradiction
      intro hn
      have h1 := HC.out.2 hn
      have h2 := HZ.out
      omega
     rw [hw, Int.toNat_natCast]
     refine SortedFrom.down ?_ hj hle
     have := hi.2.2
     rw [hij, show ((j : Int) + 1).toNat = j + 1 by omega] at this
     exact this
    case measure =>
     have hi := HI.out
     have hw := HW.out
     have hij := HIJ.out
     simp [intOf]
     omega
  ·have c0 : decide (0 < i) = false := decide_eq_false h0
   have HZ := Aside0.mk h0
   clear h0
   go_wp2
   go_ret
   have := HI.out
   have h0 := HZ.out
   have hs : SortedFrom es i.toNat := this.2.2
   rw [show i.toNat = 0 by omega] at hs
   have ha := hs.all
   exact ⟨by rw [ha]; rfl, HB.out⟩
end Go.Proofs.Ytnbljcgdgblgoaa.Cf
end

section
namespace Go.Proofs.Ytnbljcgdgblgoaa.P
open Go.RowKit Go.Proofs.YtnbljcgdgblgoaaW.PrintWords Go.Proofs.YtnbljcgdgblgoaaW.PrintLast Go.Proofs.YtnbljcgdgblgoaaW.PrintMore
attribute [local go_sem] max2_int min2_int max_two min_two max_three min_three max_four min_four
set_option linter.unusedVariables false
set_option linter.unusedSimpArgs false
def impl_GraphOk.f (aD : Int) (aA : List (S57)) : Option Bool := some (Cf.gOk aD aA)
theorem impl_GraphOk.calls (aD : Int) (aH : Option Addr) (aG : Nat) (aA : List (S57)) (r : Bool) (w : World) (hr0_1 : Kd.C k57 w aH aA.length aA) (hc0_1 : aA.length ≤ aG) (h : impl_GraphOk.f aD aA = some r) :
  Calls Try.prog 50 #[.agg #[.int .i64 aD, .slice aH aA.length aG]] w fun e w' => e = .returned (.bool r) ∧ Below w.heap.size w w' := by
 obtain rfl := Option.some.inj h; clear h; obtain ⟨k1, hk1⟩ := (Cf.implEdges aD aA).rounds; have HR := zK_ hr0_1; have HK1 := zK_ hk1; clear hr0_1 hk1; go_enter Try.func50, Try.ntmps50; have HB := zK_ (below_alloc (Below.refl w.heap.size w) (.cells #[.int .i64 aD, .slice aH aA.length aG] 25)); have BK := zK_ (heap_alloc_new w (.cells #[.int .i64 aD, .slice aH aA.length aG] 25)); by_cases he : Cf.EsOk aD aA; rotate_left
 ·have HE := zK_ he; replace HK1 := zK_ (HK1.out.trans (congrArg some (decide_eq_false he))); clear he; (go_wp2_with fail); refine (impl_EdgesOk.calls k1 _ _ _ aA false _ (Kd.C_below HR.out HB.out) hc0_1 HK1.out).mono ?_; rintro e w1 ⟨rfl, hb⟩; have HB1 := zK_ (below_step HB.out hb); clear hb; go_wp2; go_ret
  have hg : Cf.gOk aD aA = false := by
   cases hb : Cf.gOk aD aA with
   | false => rfl
   | true => exact absurd (Cf.gOk_iff.1 hb).1 HE.out
  exact ⟨by rw [hg]; rfl, HB1.out⟩
 have HE := zK_ he; replace HK1 := zK_ (HK1.out.trans (congrArg some (decide_eq_true he))); clear he; (go_wp2_with fail); refine (impl_EdgesOk.calls k1 _ _ _ aA true _ (Kd.C_below HR.out HB.out) hc0_1 HK1.out).mono ?_; rintro e w1 ⟨rfl, hb⟩; have HB1 := zK_ (below_step HB.out hb); have oI := zK_ (blk_below BK.out hb); clear hb; have hz0 : w1.cell? ⟨w.heap.size, 0, none⟩ = some (.int .i64 aD) := (blk_cell oI.out 0).trans rfl; have hz1 : w1.cell? ⟨w.heap.size, 1, none⟩ = some (.slice aH aA.length aG) := (blk_cell oI.out 1).trans rfl; (go_wp2_with fail); have HS := zK_ (Cf.isf_calls aA aH aG w1 (Kd.C_below HR.out HB1.out) hc0_1); by_cases hs : Cf.Sorted aA; rotate_left
 ·have hsb : Cf.sortedB aA = false := by
   cases hb : Cf.sortedB aA with
   | false => rfl
   | true => exact absurd (Cf.sortedB_iff.1 hb) hs
  rw [hsb] at HS; have HSo := zK_ hs; clear hs hsb; refine HS.out.mono ?_; rintro e w2 ⟨rfl, hb⟩; have HB2 := zK_ (below_step HB1.out hb); clear hb hz0 hz1; go_wp2; go_ret
  have hg : Cf.gOk aD aA = false := by
   cases hb : Cf.gOk aD aA with
   | false => rfl
   | true => exact absurd (Cf.gOk_iff.1 hb).2.1 HSo.out
  exact ⟨by rw [hg]; rfl, HB2.out⟩
 have HSo := zK_ hs; rw [Cf.sortedB_iff.2 hs] at HS; clear hs; refine HS.out.mono ?_; rintro e w2 ⟨rfl, hb⟩; have HB2 := zK_ (below_step HB1.out hb); have BT := zK_ (blk_below oI.out hb); clear hb hz0 hz1; have hz0 : w2.cell? ⟨w.heap.size, 0, none⟩ = some (.int .i64 aD) := (blk_cell BT.out 0).trans rfl; have hz1 : w2.cell? ⟨w.heap.size, 1, none⟩ = some (.slice aH aA.length aG) := (blk_cell BT.out 1).trans rfl; (go_wp2_with fail); obtain ⟨h1, h6, hl, hes⟩ := HE.out; obtain ⟨n, rfl⟩ := Int.eq_ofNat_of_zero_le (a := aD) (by omega); obtain ⟨k2, hk2⟩ := (Cf.implConn n ⟨by omega, by omega⟩ aA (by omega) hes).rounds; refine (impl_connected.calls k2 _ _ _ aA (Cf.joinedB n aA) _ (Kd.C_below HR.out HB2.out) hc0_1 hk2).mono ?_; rintro e w3 ⟨rfl, hd⟩; have HB3 := zK_ (below_step HB2.out hd); clear hd hk2 h1 h6 hl hes
 have hg : Cf.gOk n aA = Cf.joinedB n aA := by
  rw [Bool.eq_iff_iff, Cf.gOk_iff, Cf.joinedB_iff]; exact ⟨fun h => h.2.2, fun h => ⟨HE.out, HSo.out, h⟩⟩
 have HG := zK_ hg; clear hg; generalize Cf.joinedB n aA = z at HG ⊢; cases z
 ·go_wp2; go_ret; exact ⟨by rw [HG.out]; rfl, HB3.out⟩
 ·go_wp2; go_ret; exact ⟨by rw [HG.out]; rfl, HB3.out⟩
def impl_isVertex.f (aD : Int) (aA : List (S57)) (a1 : Int) : Option (Bool) := (impl_GraphOk.f aD aA).bind fun aZ => (if aZ = true then ((impl_within.f a1 0 (wrap64 (aD - 1))).bind fun bN => (some bN)) else (some false))
theorem impl_isVertex.calls (aD : Int) (aH : Option Addr) (aG : Nat) (aA : List (S57)) (a1 : Int) (r : Bool) (w : World) (hr0_1 : Kd.C k57 w aH aA.length aA) (hc0_1 : aA.length ≤ aG) (h : impl_isVertex.f aD aA a1 = some r) :
  Calls Try.prog 47 #[.agg #[.int .i64 aD, .slice aH aA.length aG], .int .i64 a1] w fun e w' => e = .returned (.bool r) ∧ Below w.heap.size w w' := by
 have hu25 := Try.underlying25; have bL := zK_ hr0_1; have bG := zK_ hc0_1; clear hr0_1 hc0_1; have HB := zK_ (Below.refl w.heap.size w); have H : ((impl_GraphOk.f aD aA).bind fun aZ => (if aZ = true then ((impl_within.f a1 0 (wrap64 (aD - 1))).bind fun bN => (some bN)) else (some false))) = some r := h; clear h; obtain ⟨aZ, A30, H⟩ := zO_ H; (try dsimp only at H); have A3 := zK_ A30; clear A30; by_cases c4 : aZ = true; rotate_left
 ·replace c4 := Bool.eq_false_iff.mpr c4; subst c4; rw [if_neg (show ¬ (false = true) by decide)] at H; obtain rfl := Option.some.inj H; go_enter Try.func47, Try.ntmps47; (go_wp2_with (first | ((with_reducible refine gate_dst (N := 2) rfl ?_); refine box_event ?hg (N := 2) ?hd (cs := #[.int .i64 aD, .slice aH aA.length aG]) (t := 25) ?hr ?_; (case hd => rfl); (case hg => rfl); (case hr => exact zz9); intro aE hg w10 hbox hb; have n_ := zA4 (below_step zz1 hb) hbox (zz10 : w.heap.size ≤ aE) (zz10 : w.heap.size ≤ aE); clear HB; obtain ⟨HB, aC, GW101, GE101⟩ := n_; clear hb hbox hg; have fD := zC20 aC; have fC := zC21 aC; have fB := blk_frozen aC.out 0; have fA := blk_frozen aC.out 1) | ((with_reducible refine gate_callee (f := 50) rfl ?_); refine goesL_ (some 6) rfl rfl Try.func50 (by kernel_rfl) rfl #[.agg #[.int .i64 aD, .slice aH aA.length aG]] rfl zz4 ?_; (with_reducible refine (impl_GraphOk.calls aD _ _ aA false _ ?side1 ?side2 A3.out).mono ?_); (case side1 => exact zz6); (case side2 => exact bG.out); rintro e w12 ⟨rfl, hb⟩; refine ⟨_, rfl, ?_⟩; have n_ := zA2 (blk_below (g := aE) (o := .cells #[.int .i64 aD, .slice aH aA.length aG] 25 (0, 0)) zz2 hb) (below_step zz0 hb); clear aC HB; obtain ⟨aC, HB⟩ := n_; clear hb))); go_ret; exact ⟨zz7, zz0⟩
 subst c4; rw [if_pos rfl] at H; obtain ⟨bN, A50, H⟩ := zO_ H; (try dsimp only at H); have A5 := zK_ A50; clear A50; obtain rfl := Option.some.inj H; go_enter Try.func47, Try.ntmps47; (go_wp2_with (first | ((with_reducible refine gate_dst (N := 2) rfl ?_); refine box_event ?hg (N := 2) ?hd (cs := #[.int .i64 aD, .slice aH aA.length aG]) (t := 25) ?hr ?_; (case hd => rfl); (case hg => rfl); (case hr => exact zz9); intro aE hg w6 hbox hb; have n_ := zA4 (below_step zz1 hb) hbox (zz10 : w.heap.size ≤ aE) (zz10 : w.heap.size ≤ aE); clear HB; obtain ⟨HB, aC, GW101, GE101⟩ := n_; clear hb hbox hg; have eM := zC20 aC; have eK := zC21 aC; have eE := blk_frozen aC.out 0; have d9 := blk_frozen aC.out 1) | ((with_reducible refine gate_callee (f := 50) rfl ?_); refine goesL_ (some 6) rfl rfl Try.func50 (by kernel_rfl) rfl #[.agg #[.int .i64 aD, .slice aH aA.length aG]] rfl zz4 ?_; (with_reducible refine (impl_GraphOk.calls aD _ _ aA true _ ?side1 ?side2 A3.out).mono ?_); (case side1 => exact zz6); (case side2 => exact bG.out); rintro e w8 ⟨rfl, hb⟩; refine ⟨_, rfl, ?_⟩; have n_ := zA2 (blk_below (g := aE) (o := .cells #[.int .i64 aD, .slice aH aA.length aG] 25 (0, 0)) zz2 hb) (below_step zz0 hb); clear aC HB; obtain ⟨aC, HB⟩ := n_; clear hb; have eJ := zC20 aC; have eI := zC21 aC; have d8 := blk_frozen aC.out 0; have d7 := blk_frozen aC.out 1) | (go_at_call 39; (with_reducible refine (impl_within.calls a1 0 (wrap64 (aD - 1)) bN _ A5.out).mono ?_); rintro e w' ⟨rfl, ⟨nd, rfl⟩⟩))); go_ret; exact ⟨zz7, zz0⟩
def impl_allWithin.l0 : Nat → Int → Int → List Int → Int → Int → Option (Bool)
 | 0, _, _, _, _, _ => none
 | k + 1, x1, x2, x9, fI, eR => if eR < fI then (if 0 ≤ eR then (if eR < (x9.length : Int) then ((impl_within.f (rd x9 eR) x1 x2).bind fun aZ => (if aZ = true then (impl_allWithin.l0 k x1 x2 x9 fI (wrap64 (eR + 1))) else (some false))) else (none)) else (none)) else (some true)
def impl_allWithin.f (k : Nat) (l0 : List Int) (a1 : Int) (a2 : Int) : Option (Bool) := impl_allWithin.l0 k a1 a2 l0 (l0.length : Int) 0
theorem impl_allWithin.mono_l : ∀ k, (∀ y0 y1 y2 y3 y4, LeO (impl_allWithin.l0 k y0 y1 y2 y3 y4) (impl_allWithin.l0 (k + 1) y0 y1 y2 y3 y4))
 | 0 => fun _ _ _ _ _ r h => by simp [impl_allWithin.l0] at h
 | k + 1 => by
  have ih0 := impl_allWithin.mono_l k
  ·intro y0 y1 y2 y3 y4
   unfold impl_allWithin.l0
   exact zm0
theorem impl_allWithin.mono : ∀ a0 a1 a2 k, LeO (impl_allWithin.f k a0 a1 a2) (impl_allWithin.f (k + 1) a0 a1 a2) := by
 intro a0 a1 a2 k; have ih0 := impl_allWithin.mono_l k; unfold impl_allWithin.f; exact zm0
theorem impl_allWithin.calls (k : Nat) (A0 : Option Addr) (c0 : Nat) (l0 : List Int) (a1 : Int) (a2 : Int) (r : Bool) (w : World) (hr0 : Kd.C (Kd.int .i64) w A0 l0.length l0) (hc0 : l0.length ≤ c0) (h : impl_allWithin.f k l0 a1 a2 = some r) :
  Calls Try.prog 51 #[.slice A0 l0.length c0, .int .i64 a1, .int .i64 a2] w fun e w' => e = .returned (.bool r) ∧ Drawn0 w w' := by
 have HR0 := zK_ hr0; have HC0 := zK_ hc0; clear hr0 hc0; have H : (impl_allWithin.l0 k a1 a2 l0 (l0.length : Int) 0) = some r := h; clear h; have H' := zK_ H; clear H; go_enter Try.func51, Try.ntmps51; go_wp2; (go_loopg [11] k (fun kq v11 w' => ∃ (aI : Int), v11 = .int .i64 aI ∧ Aside0 (impl_allWithin.l0 kq a1 a2 l0 (l0.length : Int) aI = some r) ∧ Aside0 (kq ≤ k) ∧ Drawn0 w w')); case atStart => exact ⟨(0), zz5, H', ⟨Nat.le_refl _⟩, by repeat (first | exact Drawn0.refl _ | apply Drawn0.step)⟩
 case round =>
  clear H'; (try clear p2); obtain ⟨aI, rfl, HA, HK1, ⟨m1, rfl⟩⟩ := hrel
  cases gk with
  | zero => exact absurd HA.out (by simp [impl_allWithin.l0])
  | succ k1 =>
   have H := HA.out; clear HA; simp only [impl_allWithin.l0] at H; by_cases c4 : aI < (l0.length : Int); rotate_left
   ·rw [if_neg c4] at H; have dB := decide_eq_false c4; clear c4; obtain rfl := Option.some.inj H; go_wp2; go_ret; exact ⟨zz5, by repeat (first | exact Drawn0.refl _ | apply Drawn0.step)⟩
   rw [if_pos c4] at H; have dB := decide_eq_true c4; clear c4; by_cases c5 : 0 ≤ aI; rotate_left
   ·rw [if_neg c5] at H; exact absurd H (by simp)
   rw [if_pos c5] at H; have dH := decide_eq_true c5; clear c5; by_cases c6 : aI < (l0.length : Int); rotate_left
   ·rw [if_neg c6] at H; exact absurd H (by simp)
   rw [if_pos c6] at H; have dY := decide_eq_true c6; clear c6; obtain ⟨aZ, A70, H⟩ := zO_ H; (try dsimp only at H); have A7 := zK_ A70; clear A70; by_cases c8 : aZ = true; rotate_left
   ·replace c8 := Bool.eq_false_iff.mpr c8; subst c8; rw [if_neg (show ¬ (false = true) by decide)] at H; obtain rfl := Option.some.inj H; have p101 : 0 ≤ (aI : Int) := of_decide_eq_true zz3; have q101 : aI < (l0.length : Int) := of_decide_eq_true zz3; obtain ⟨b8, e101, a6⟩ := Kd.at_int HR0.out aI p101 q101; cases e101; replace p101 := eq_true p101; replace q101 := eq_true q101; (go_wp2_with (first | ((with_reducible refine gate_callee (f := 39) rfl ?_); refine goesL_ (some 18) rfl rfl Try.func39 (by kernel_rfl) rfl #[.int .i64 (rd l0 aI), .int .i64 a1, .int .i64 a2] rfl zz4 ?_; (with_reducible refine (impl_within.calls (rd l0 aI) a1 a2 false _ A7.out).mono ?_); rintro e w' ⟨rfl, ⟨nd, rfl⟩⟩; refine ⟨_, rfl, ?_⟩))); go_ret; exact ⟨zz5, by repeat (first | exact Drawn0.refl _ | apply Drawn0.step)⟩
   subst c8; rw [if_pos rfl] at H; have H' := zK_ H; clear H; have p101 : 0 ≤ (aI : Int) := of_decide_eq_true zz3; have q101 : aI < (l0.length : Int) := of_decide_eq_true zz3; obtain ⟨b8, e101, a6⟩ := Kd.at_int HR0.out aI p101 q101; cases e101; replace p101 := eq_true p101; replace q101 := eq_true q101; (go_wp2_with (first | ((with_reducible refine gate_callee (f := 39) rfl ?_); refine goesL_ (some 18) rfl rfl Try.func39 (by kernel_rfl) rfl #[.int .i64 (rd l0 aI), .int .i64 a1, .int .i64 a2] rfl zz4 ?_; (with_reducible refine (impl_within.calls (rd l0 aI) a1 a2 true _ A7.out).mono ?_); rintro e w' ⟨rfl, ⟨nd, rfl⟩⟩; refine ⟨_, rfl, ?_⟩))); go_roundg k1; (case measure => have := HK1.out; omega); case rel => exact ⟨(wrap64 (aI + 1)), zz5, H', ⟨zz34⟩, by repeat (first | exact Drawn0.refl _ | apply Drawn0.step)⟩
def impl_MatrixOk.l0 : Nat → List (List Int) → List (List Int) → Int → Int → Option (Bool)
 | 0, _, _, _, _ => none
 | k + 1, x0, x8, x9, fI => if fI < x9 then (if 0 ≤ fI then (if fI < (x8.length : Int) then (if ((rd_L3 x8 fI).length : Int) = (x0.length : Int) then ((impl_allWithin.f k (rd_L3 x8 fI) (-500) 500).bind fun aZ => (if aZ = true then (impl_MatrixOk.l0 k x0 x8 x9 (wrap64 (fI + 1))) else (some false))) else (some false)) else (none)) else (none)) else (some true)
def impl_MatrixOk.f (k : Nat) (l0 : List (List Int)) : Option (Bool) := if (l0.length : Int) > 6 then (some false) else (impl_MatrixOk.l0 k l0 l0 (l0.length : Int) 0)
theorem impl_MatrixOk.mono_l : ∀ k, (∀ y0 y1 y2 y3, LeO (impl_MatrixOk.l0 k y0 y1 y2 y3) (impl_MatrixOk.l0 (k + 1) y0 y1 y2 y3))
 | 0 => fun _ _ _ _ r h => by simp [impl_MatrixOk.l0] at h
 | k + 1 => by
  have ih0 := impl_MatrixOk.mono_l k
  ·intro y0 y1 y2 y3
   unfold impl_MatrixOk.l0
   exact zm11
theorem impl_MatrixOk.mono : ∀ a0 k, LeO (impl_MatrixOk.f k a0) (impl_MatrixOk.f (k + 1) a0) := by
 intro a0 k; have ih0 := impl_MatrixOk.mono_l k; unfold impl_MatrixOk.f; exact zm11
theorem impl_MatrixOk.calls (k : Nat) (A0 : Option Addr) (c0 : Nat) (l0 : List (List Int)) (r : Bool) (w : World) (hr0 : Kd.C (Kd.slice 3 (Kd.int .i64)) w A0 l0.length l0) (hc0 : l0.length ≤ c0) (h : impl_MatrixOk.f k l0 = some r) :
  Calls Try.prog 143 #[.slice A0 l0.length c0] w fun e w' => e = .returned (.bool r) ∧ Drawn0 w w' := by
 have HR0 := zK_ hr0; have HC0 := zK_ hc0; clear hr0 hc0; have H : (if (l0.length : Int) > 6 then (some false) else (impl_MatrixOk.l0 k l0 l0 (l0.length : Int) 0)) = some r := h; clear h; by_cases c2 : (l0.length : Int) > 6
 ·rw [if_pos c2] at H; have jW : decide (6 < (l0.length : Int)) = true := decide_eq_true c2; have lX : decide (6 < l0.length) = true := decide_eq_true (by omega); clear c2; obtain rfl := Option.some.inj H; go_enter Try.func143, Try.ntmps143; go_wp2; go_ret; exact ⟨zz5, by repeat (first | exact Drawn0.refl _ | apply Drawn0.step)⟩
 rw [if_neg c2] at H; have jW : decide (6 < (l0.length : Int)) = false := decide_eq_false c2; have lX : decide (6 < l0.length) = false := decide_eq_false (by omega); clear c2; have H' := zK_ H; clear H; go_enter Try.func143, Try.ntmps143; go_wp2; (go_loopg [10] k (fun kq v10 w' => ∃ (bX : Int), v10 = .int .i64 bX ∧ Aside0 (impl_MatrixOk.l0 kq l0 l0 (l0.length : Int) bX = some r) ∧ Aside0 (kq ≤ k) ∧ Drawn0 w w')); case atStart => exact ⟨(0), zz5, H', ⟨Nat.le_refl _⟩, by repeat (first | exact Drawn0.refl _ | apply Drawn0.step)⟩
 case round =>
  clear H'; (try clear c1); (try clear c2); (try clear jW); (try clear lX); (try clear p2); obtain ⟨bX, rfl, HA, HK1, ⟨m1, rfl⟩⟩ := hrel
  cases gk with
  | zero => exact absurd HA.out (by simp [impl_MatrixOk.l0])
  | succ k1 =>
   have H := HA.out; clear HA; simp only [impl_MatrixOk.l0] at H; by_cases c3 : bX < (l0.length : Int); rotate_left
   ·rw [if_neg c3] at H; have dD := decide_eq_false c3; (try (have fH := dD; first | rw [bK] at fH | rw [← bK] at fH)); clear c3; obtain rfl := Option.some.inj H; go_wp2; go_ret; exact ⟨zz5, by repeat (first | exact Drawn0.refl _ | apply Drawn0.step)⟩
   rw [if_pos c3] at H; have dD := decide_eq_true c3; clear c3; by_cases c4 : 0 ≤ bX; rotate_left
   ·rw [if_neg c4] at H; exact absurd H (by simp)
   rw [if_pos c4] at H; have dB := decide_eq_true c4; clear c4; by_cases c5 : bX < (l0.length : Int); rotate_left
   ·rw [if_neg c5] at H; exact absurd H (by simp)
   rw [if_pos c5] at H; have dH := decide_eq_true c5; clear c5; by_cases c6 : ((rd_L3 l0 bX).length : Int) = (l0.length : Int); rotate_left
   ·rw [if_neg c6] at H; have dY : (((rd_L3 l0 bX).length : Int) == (l0.length : Int)) = false := beq_eq_false_iff_ne.mpr c6; have j9 : (((rd_L3 l0 bX).length : Int) != (l0.length : Int)) = true := bne_iff_ne.mpr c6; (have qV : ((rd_L3 l0 bX).length == l0.length) = false := by first | simpa using c6 | (simp at c6 ⊢; omega)); obtain rfl := Option.some.inj H; have p101 : 0 ≤ (bX : Int) := of_decide_eq_true zz3; have q101 : bX < (l0.length : Int) := of_decide_eq_true zz3; obtain ⟨b8, A101_0, c101_0, e101, a6, bK, hi101_0⟩ := at_L3 HR0.out bX p101 q101; cases e101; have HR101_0 := zK_ hi101_0; have HC101_0 := zK_ bK; clear hi101_0 bK; replace p101 := eq_true p101; replace q101 := eq_true q101; go_wp2; go_ret; exact ⟨zz5, by repeat (first | exact Drawn0.refl _ | apply Drawn0.step)⟩
   rw [if_pos c6] at H; have dY : (((rd_L3 l0 bX).length : Int) == (l0.length : Int)) = true := beq_iff_eq.mpr c6; have j9 : (((rd_L3 l0 bX).length : Int) != (l0.length : Int)) = false := bne_eq_false_iff_eq.mpr c6; (have qV : ((rd_L3 l0 bX).length == l0.length) = true := by first | simpa using c6 | (simp at c6 ⊢; omega)); clear c6; obtain ⟨aZ, A70, H⟩ := zO_ H; (try dsimp only at H); have A7 := zK_ A70; clear A70; by_cases c8 : aZ = true; rotate_left
   ·replace c8 := Bool.eq_false_iff.mpr c8; subst c8; rw [if_neg (show ¬ (false = true) by decide)] at H; obtain rfl := Option.some.inj H; have p101 : 0 ≤ (bX : Int) := of_decide_eq_true zz3; have q101 : bX < (l0.length : Int) := of_decide_eq_true zz3; obtain ⟨b8, A101_0, c101_0, e101, a6, bK, hi101_0⟩ := at_L3 HR0.out bX p101 q101; cases e101; have HR101_0 := zK_ hi101_0; have HC101_0 := zK_ bK; clear hi101_0 bK; replace p101 := eq_true p101; replace q101 := eq_true q101; (go_wp2_with (first | (go_at_call 51; (with_reducible refine (impl_allWithin.calls k1 _ _ (rd_L3 l0 bX) (-500) 500 false _ ?side1 ?side2 A7.out).mono ?_); (case side1 => exact zz21); (case side2 => exact HC101_0.out); rintro e w' ⟨rfl, ⟨nd, rfl⟩⟩))); go_ret; exact ⟨zz5, by repeat (first | exact Drawn0.refl _ | apply Drawn0.step)⟩
   subst c8; rw [if_pos rfl] at H; have H' := zK_ H; clear H; have p101 : 0 ≤ (bX : Int) := of_decide_eq_true zz3; have q101 : bX < (l0.length : Int) := of_decide_eq_true zz3; obtain ⟨b8, A101_0, c101_0, e101, a6, bK, hi101_0⟩ := at_L3 HR0.out bX p101 q101; cases e101; have HR101_0 := zK_ hi101_0; have HC101_0 := zK_ bK; clear hi101_0 bK; replace p101 := eq_true p101; replace q101 := eq_true q101; (go_wp2_with (first | (go_at_call 51; (with_reducible refine (impl_allWithin.calls k1 _ _ (rd_L3 l0 bX) (-500) 500 true _ ?side1 ?side2 A7.out).mono ?_); (case side1 => exact zz21); (case side2 => exact HC101_0.out); rintro e w' ⟨rfl, ⟨nd, rfl⟩⟩))); go_roundg k1; (case measure => have := HK1.out; omega); case rel => exact ⟨(wrap64 (bX + 1)), zz5, H', ⟨zz34⟩, by repeat (first | exact Drawn0.refl _ | apply Drawn0.step)⟩
mutual
def impl_determinant.l0 : Nat → List (List Int) → List Int → Int → Int → Int → List Int → Int → Int → Option (Int)
 | 0, _, _, _, _, _, _, _, _ => none
 | k + 1, x0, x1, x2, x7, x8, mX, rF, kT => if kT < rF then (if 0 ≤ kT then (if kT < (mX.length : Int) then (if (Go.bits .and .i64 (shr .i64 x2 kT) 1) = 0 then (impl_determinant.l0 k x0 x1 x2 x7 x8 mX rF (wrap64 (kT + 1))) else (if (rd mX kT) = 0 then (impl_determinant.l0 k x0 x1 x2 x7 (wrap64 (-x8)) mX rF (wrap64 (kT + 1))) else (if 1 ≤ (x1.length : Int) then ((impl_determinant.f k x0 (x1.drop 1) (Go.bits .andNot .i64 x2 (shl .i64 1 kT))).bind fun dE => (impl_determinant.l0 k x0 x1 x2 (wrap64 (x7 + (wrap64 ((wrap64 (x8 * (rd mX kT))) * dE)))) (wrap64 (-x8)) mX rF (wrap64 (kT + 1)))) else (none)))) else (none)) else (none)) else (some x7)
def impl_determinant.f : Nat → List (List Int) → List Int → Int → Option (Int)
 | 0, _, _, _ => none
 | k + 1, l0, l1, a2 => if (l1.length : Int) = 0 then (some 1) else (if 0 < (l1.length : Int) then (if 0 ≤ (rd l1 0) then (if (rd l1 0) < (l0.length : Int) then (impl_determinant.l0 k l0 l1 a2 0 1 (rd_L3 l0 (rd l1 0)) ((rd_L3 l0 (rd l1 0)).length : Int) 0) else (none)) else (none)) else (none))
end
theorem impl_determinant.mono_l : ∀ k, (∀ y0 y1 y2, LeO (impl_determinant.f k y0 y1 y2) (impl_determinant.f (k + 1) y0 y1 y2)) ∧ (∀ y0 y1 y2 y3 y4 y5 y6 y7, LeO (impl_determinant.l0 k y0 y1 y2 y3 y4 y5 y6 y7) (impl_determinant.l0 (k + 1) y0 y1 y2 y3 y4 y5 y6 y7))
 | 0 => ⟨fun _ _ _ r h => by simp [impl_determinant.f] at h, fun _ _ _ _ _ _ _ _ r h => by simp [impl_determinant.l0] at h⟩
 | k + 1 => by
  obtain ⟨ih0, ih1⟩ := impl_determinant.mono_l k
  refine ⟨?_, ?_⟩
  ·intro y0 y1 y2
   unfold impl_determinant.f
   exact zm1
  ·intro y0 y1 y2 y3 y4 y5 y6 y7
   unfold impl_determinant.l0
   exact zm1
theorem impl_determinant.mono : ∀ a0 a1 a2 k, LeO (impl_determinant.f k a0 a1 a2) (impl_determinant.f (k + 1) a0 a1 a2) := by
 intro a0 a1 a2 k; obtain ⟨ih0, ih1⟩ := impl_determinant.mono_l k; exact ih0 a0 a1 a2
def impl_determinant.T9 : Bool × List (List Nat × List Nat) := (true, [([], []), ([], []), ([], []), ([1, 2], [1, 2]), ([], []), ([], []), ([5], [5]), ([], []), ([], []), ([8], [8]), ([7, 9], [7, 9]), ([4, 6, 10], [4, 6, 10]), ([3, 11], [3, 11]), ([0, 12], [0, 12]), ([13, 11, 0, 1, 2, 3, 4, 5, 6, 7, 8, 9, 10, 11, 12, 13], [0, 13])])
def impl_determinant.B9 : List Nat := [0, 0, 0, 6, 0, 0, 32, 0, 0, 256, 896, 2032, 4094, 8191, 16383]
theorem impl_determinant.tab9 : rtab .any (opsOf Try.f144 9) = impl_determinant.T9 := by kernel_rfl
theorem impl_determinant.bits9 : waitsOk impl_determinant.T9.2 impl_determinant.B9 = true := by kernel_rfl
theorem impl_determinant.calls (k : Nat) : ∀ (A0 : Option Addr) (c0 : Nat) (l0 : List (List Int)) (A1 : Option Addr) (c1 : Nat) (l1 : List Int) (a2 : Int) (r : Int) (w : World) (hr0 : Kd.C (Kd.slice 3 (Kd.int .i64)) w A0 l0.length l0) (hc0 : l0.length ≤ c0) (hr1 : Kd.C (Kd.int .i64) w A1 l1.length l1) (hc1 : l1.length ≤ c1) (h : impl_determinant.f k l0 l1 a2 = some r),
  Calls Try.prog 144 #[.slice A0 l0.length c0, .slice A1 l1.length c1, .int .i64 a2] w fun e w' => e = .returned (.int .i64 r) ∧ Below w.heap.size w w' := by
 induction k using Nat.strongRecOn with
 | _ k ih =>
 intro A0 c0 l0 A1 c1 l1 a2 r w hr0 hc0 hr1 hc1 h
 cases k with
 | zero => exact absurd h (by simp [impl_determinant.f])
 | succ k =>
 simp only [impl_determinant.f] at h; have HR0 := zK_ hr0; have HC0 := zK_ hc0; clear hr0 hc0; have HR1 := zK_ hr1; have HC1 := zK_ hc1; clear hr1 hc1; have HB := zK_ (Below.refl w.heap.size w); have H : (if (l1.length : Int) = 0 then (some 1) else (if 0 < (l1.length : Int) then (if 0 ≤ (rd l1 0) then (if (rd l1 0) < (l0.length : Int) then (impl_determinant.l0 k l0 l1 a2 0 1 (rd_L3 l0 (rd l1 0)) ((rd_L3 l0 (rd l1 0)).length : Int) 0) else (none)) else (none)) else (none))) = some r := h; clear h; by_cases c4 : (l1.length : Int) = 0
 ·rw [if_pos c4] at H; have dB : ((l1.length : Int) == 0) = true := beq_iff_eq.mpr c4; have jQ : ((l1.length : Int) != 0) = false := bne_eq_false_iff_eq.mpr c4; clear c4; obtain rfl := Option.some.inj H; go_enter Try.func144, Try.ntmps144; go_wp2; go_ret; exact ⟨zz7, zz1⟩
 rw [if_neg c4] at H; have dB : ((l1.length : Int) == 0) = false := beq_eq_false_iff_ne.mpr c4; have jQ : ((l1.length : Int) != 0) = true := bne_iff_ne.mpr c4; (have rQ : ¬ (l1 = []) := fun h_ => c4 (by rw [h_]; rfl)); by_cases c5 : 0 < (l1.length : Int); rotate_left
 ·rw [if_neg c5] at H; exact absurd H (by simp)
 rw [if_pos c5] at H; have dH := decide_eq_true c5; have kA : decide (0 < l1.length) = true := decide_eq_true (by omega); clear c5; by_cases c6 : 0 ≤ (rd l1 0); rotate_left
 ·rw [if_neg c6] at H; exact absurd H (by simp)
 rw [if_pos c6] at H; have dY := decide_eq_true c6; clear c6; by_cases c7 : (rd l1 0) < (l0.length : Int); rotate_left
 ·rw [if_neg c7] at H; exact absurd H (by simp)
 rw [if_pos c7] at H; have dK := decide_eq_true c7; clear c7; have H' := zK_ H; clear H; have p101 : 0 ≤ (0 : Int) := (by omega); have q101 : 0 < (l1.length : Int) := of_decide_eq_true zz3; obtain ⟨b8, e101, a6⟩ := Kd.at_int HR1.out 0 p101 q101; cases e101; have qi101 : (0 < l1.length) = True := eq_true (by omega); (try rw [show ((0 : Int)).toNat = 0 from rfl] at a6); (try rw [Addr.add_zero'] at a6); replace p101 := eq_true p101; replace q101 := eq_true q101; have p102 : 0 ≤ ((rd l1 0) : Int) := of_decide_eq_true zz3; have q102 : (rd l1 0) < (l0.length : Int) := of_decide_eq_true zz3; obtain ⟨cS, A102_0, c102_0, e102, bA, dV, hi102_0⟩ := at_L3 HR0.out (rd l1 0) p102 q102; cases e102; have HR102_0 := zK_ hi102_0; have HC102_0 := zK_ dV; clear hi102_0 dV; replace p102 := eq_true p102; replace q102 := eq_true q102; go_enter Try.func144, Try.ntmps144; go_wp2; (go_loopg [7, 8, 21] k (fun kq v7 v8 v21 w' => ∃ (b9 : Int) (bM : Int) (b3 : Int), v7 = .int .i64 b9 ∧ v8 = .int .i64 bM ∧ v21 = .int .i64 b3 ∧ Aside0 (impl_determinant.l0 kq l0 l1 a2 b9 bM (rd_L3 l0 (rd l1 0)) ((rd_L3 l0 (rd l1 0)).length : Int) b3 = some r) ∧ Aside0 (kq ≤ k) ∧ Aside0 (Below w.heap.size w w'))); case atStart => exact ⟨(0), (1), (0), zz5, zz5, zz5, H', ⟨Nat.le_refl _⟩, ⟨zz1⟩⟩
 case round =>
  clear H'; (try clear c1); (try clear p1); (try clear q1); (try clear hx1); (try clear qi1); (try clear p2); (try clear c4); (try clear dB); (try clear jQ); (try clear rQ); (try clear c5); (try clear dH); (try clear kA); (try clear c6); (try clear dY); (try clear c7); (try clear dK); (try clear a6); (try clear bA); (try clear p101); (try clear p102); (try clear q101); (try clear q102); obtain ⟨b9, bM, b3, rfl, rfl, rfl, HA, HK1, HB⟩ := hrel
  cases gk with
  | zero => exact absurd HA.out (by simp [impl_determinant.l0])
  | succ k1 =>
   have H := HA.out; clear HA; simp only [impl_determinant.l0] at H; by_cases c8 : b3 < ((rd_L3 l0 (rd l1 0)).length : Int); rotate_left
   ·rw [if_neg c8] at H; have fP := decide_eq_false c8; (try (have g3 := fP; first | rw [dV] at g3 | rw [← dV] at g3)); clear c8; obtain rfl := Option.some.inj H; go_wp2; go_ret; exact ⟨zz7, zz1⟩
   rw [if_pos c8] at H; have fP := decide_eq_true c8; (try (have g3 := fP; first | rw [dV] at g3 | rw [← dV] at g3)); clear c8; by_cases c9 : 0 ≤ b3; rotate_left
   ·rw [if_neg c9] at H; exact absurd H (by simp)
   rw [if_pos c9] at H; have fN := decide_eq_true c9; clear c9; by_cases c10 : b3 < ((rd_L3 l0 (rd l1 0)).length : Int); rotate_left
   ·rw [if_neg c10] at H; exact absurd H (by simp)
   rw [if_pos c10] at H; have gS := decide_eq_true c10; (try (have kQ := gS; first | rw [dV] at kQ | rw [← dV] at kQ)); clear c10; have j4 := eq_true (of_decide_eq_true zz3 : 0 ≤ b3); obtain ⟨bP, iY⟩ : ∃ j_ : Int, (shr .i64 a2 b3) = j_ := ⟨_, rfl⟩; (replace H : (if (Go.bits .and .i64 (bP) 1) = 0 then (impl_determinant.l0 k1 l0 l1 a2 b9 bM (rd_L3 l0 (rd l1 0)) ((rd_L3 l0 (rd l1 0)).length : Int) (wrap64 (b3 + 1))) else (if (rd (rd_L3 l0 (rd l1 0)) b3) = 0 then (impl_determinant.l0 k1 l0 l1 a2 b9 (wrap64 (-bM)) (rd_L3 l0 (rd l1 0)) ((rd_L3 l0 (rd l1 0)).length : Int) (wrap64 (b3 + 1))) else (if 1 ≤ (l1.length : Int) then ((impl_determinant.f k1 l0 (l1.drop 1) (Go.bits .andNot .i64 a2 (shl .i64 1 b3))).bind fun dE => (impl_determinant.l0 k1 l0 l1 a2 (wrap64 (b9 + (wrap64 ((wrap64 (bM * (rd (rd_L3 l0 (rd l1 0)) b3))) * dE)))) (wrap64 (-bM)) (rd_L3 l0 (rd l1 0)) ((rd_L3 l0 (rd l1 0)).length : Int) (wrap64 (b3 + 1)))) else (none)))) = some r := by first | (rw [iY] at H; exact H) | (simp only [iY] at H ⊢; exact H)); have xW : (a2 / 2 ^ min b3.toNat 64) = bP := iY; have xU : b3 ≤ 64 → (a2 / 2 ^ b3.toNat) = bP := shr_small iY; by_cases c13 : (Go.bits .and .i64 (bP) 1) = 0
   ·rw [if_pos c13] at H; have i1 : ((Go.bits .and .i64 (bP) 1) == 0) = true := beq_iff_eq.mpr c13; have pO : ((Go.bits .and .i64 (bP) 1) != 0) = false := bne_eq_false_iff_eq.mpr c13; clear c13; have H' := zK_ H; clear H; have p103 : 0 ≤ (b3 : Int) := of_decide_eq_true zz3; have q103 : b3 < ((rd_L3 l0 (rd l1 0)).length : Int) := of_decide_eq_true zz3; obtain ⟨bD, e103, aQ⟩ := Kd.at_int HR102_0.out b3 p103 q103; cases e103; replace aQ := (HB.out.cell (World.block_lt_of_cell? w _ aQ)).trans aQ; replace p103 := eq_true p103; replace q103 := eq_true q103; go_wp2; go_roundg k1; (case measure => have := HK1.out; omega); case rel => exact ⟨(b9), (bM), (wrap64 (b3 + 1)), zz5, zz5, zz5, H', ⟨zz34⟩, ⟨zz1⟩⟩
   rw [if_neg c13] at H; have i1 : ((Go.bits .and .i64 (bP) 1) == 0) = false := beq_eq_false_iff_ne.mpr c13; have pO : ((Go.bits .and .i64 (bP) 1) != 0) = true := bne_iff_ne.mpr c13; by_cases c14 : (rd (rd_L3 l0 (rd l1 0)) b3) = 0
   ·rw [if_pos c14] at H; have gJ : ((rd (rd_L3 l0 (rd l1 0)) b3) == 0) = true := beq_iff_eq.mpr c14; have pN : ((rd (rd_L3 l0 (rd l1 0)) b3) != 0) = false := bne_eq_false_iff_eq.mpr c14; clear c14; have H' := zK_ H; clear H; have p103 : 0 ≤ (b3 : Int) := of_decide_eq_true zz3; have q103 : b3 < ((rd_L3 l0 (rd l1 0)).length : Int) := of_decide_eq_true zz3; obtain ⟨bD, e103, aQ⟩ := Kd.at_int HR102_0.out b3 p103 q103; cases e103; replace aQ := (HB.out.cell (World.block_lt_of_cell? w _ aQ)).trans aQ; replace p103 := eq_true p103; replace q103 := eq_true q103; go_wp2; go_roundg k1; (case measure => have := HK1.out; omega); case rel => exact ⟨(b9), (wrap64 (-bM)), (wrap64 (b3 + 1)), zz5, zz5, zz5, H', ⟨zz34⟩, ⟨zz1⟩⟩
   rw [if_neg c14] at H; have gJ : ((rd (rd_L3 l0 (rd l1 0)) b3) == 0) = false := beq_eq_false_iff_ne.mpr c14; have pN : ((rd (rd_L3 l0 (rd l1 0)) b3) != 0) = true := bne_iff_ne.mpr c14; by_cases c15 : 1 ≤ (l1.length : Int); rotate_left
   ·rw [if_neg c15] at H; exact absurd H (by simp)
   rw [if_pos c15] at H; have iK := eq_true c15; have pM : decide (1 ≤ (l1.length : Int)) = true := decide_eq_true c15; clear c15; have iJ := eq_true (of_decide_eq_true zz3 : 0 ≤ b3); obtain ⟨dG, fM⟩ : ∃ j_ : Int, (shl .i64 1 b3) = j_ := ⟨_, rfl⟩; (replace H : ((impl_determinant.f k1 l0 (l1.drop 1) (Go.bits .andNot .i64 a2 (dG))).bind fun dE => (impl_determinant.l0 k1 l0 l1 a2 (wrap64 (b9 + (wrap64 ((wrap64 (bM * (rd (rd_L3 l0 (rd l1 0)) b3))) * dE)))) (wrap64 (-bM)) (rd_L3 l0 (rd l1 0)) ((rd_L3 l0 (rd l1 0)).length : Int) (wrap64 (b3 + 1)))) = some r := by first | (rw [fM] at H; exact H) | (simp only [fM] at H ⊢; exact H)); have lG : (IntKind.i64.wrap (1 * 2 ^ min b3.toNat 64)) = dG := fM; have m4 : b3 ≤ 64 → (IntKind.i64.wrap (1 * 2 ^ b3.toNat)) = dG := shl_small fM; (have xP : (IntKind.i64.wrap (2 ^ min b3.toNat 64)) = dG := by have h_ := lG; rw [Int.one_mul] at h_; exact h_); (have xO : b3 ≤ 64 → (IntKind.i64.wrap (2 ^ b3.toNat)) = dG := fun hle_ => by have h_ := m4 hle_; rw [Int.one_mul] at h_; exact h_); have xL : (wrap64 (1 * 2 ^ min b3.toNat 64)) = dG := (i64_w _).symm.trans lG; (have xM : b3 ≤ 64 → (wrap64 (1 * 2 ^ b3.toNat)) = dG := fun h_ => (i64_w _).symm.trans (m4 h_)); obtain ⟨dE, A180, H⟩ := zO_ H; (try dsimp only at H); have A18 := zK_ A180; clear A180; have H' := zK_ H; clear H; have p103 : 0 ≤ (b3 : Int) := of_decide_eq_true zz3; have q103 : b3 < ((rd_L3 l0 (rd l1 0)).length : Int) := of_decide_eq_true zz3; obtain ⟨bD, e103, aQ⟩ := Kd.at_int HR102_0.out b3 p103 q103; cases e103; replace aQ := (HB.out.cell (World.block_lt_of_cell? w _ aQ)).trans aQ; replace p103 := eq_true p103; replace q103 := eq_true q103; (try go_wp2); replace HB := zK_ (below_drew1 HB.out); obtain ⟨i020, hi020, _, hsz20, _⟩ := info_parts info3; obtain ⟨A20, hcut20, hA20, hC20⟩ := print_drop_of (P := Try.prog) (Value.int .i64) 0 26 3 .i64 Try.underlying26 hi020 hsz20 (some b8) c1 l1 1 (by omega) (of_decide_eq_true zz3) HC1.out; have HR104 := zK_ (Kd.C_of_reads (h1 := fun _ => rfl) (hA20 _ (Kd.reads_of_C HR1.out))); have HC104 := zK_ hC20; clear hA20 hC20 hi020 hsz20; refine start_ (n := 15) (S := fun w' => True) (ds := []) (zM 15 0) (by kernel_rfl) rfl rfl trivial (fun hHeld => ?_); refine with_tabW impl_determinant.tab9 impl_determinant.bits9 (fun HT_ HW_ => ?_); generalize wr.drew = w19 at HB HR104 hHeld ⊢; refine zQ 0 33 (zM 15 1) ?_
   refine zQ 1 34 (zM 15 3) ?_
   refine zQ 2 35 (zM 15 7) ?_
   refine zQ 3 36 (zM 15 15) ?_
   refine zQ 4 37 (zM 15 31) ?_
   refine zQ 5 38 (zM 15 63) ?_
   refine zQ 6 39 (zM 15 127) ?_
   refine zQ 7 40 (zM 15 255) ?_
   refine zQ 8 41 (zM 15 511) ?_
   refine zQ 9 42 (zM 15 1023) ?_
   refine zQ 10 43 (zM 15 2047) ?_
   refine one_ (i := 11) (N := some 44) (zM 15 4095) rfl rfl (one_of HT_.out (by kernel_rfl)) (by decide) (fun K hK => ?_); refine goes_ Try.func144 (by kernel_rfl) rfl #[.slice (some cS) l0.length c0, .slice A20 (l1.drop 1).length (c1 - 1), .int .i64 (Go.bits .andNot .i64 a2 (dG))] (by rfl) rfl rfl (by (try simp only [List.map_toArray, List.map_cons, List.map_nil]); first | done | (rw [show (l1.drop 1).length = (l1.length - 1) from List.length_drop] <;> rfl) | (simp only [fM]; rfl) | rfl | (simp only [List.length_drop, List.length_take]; rfl)) ?_; (with_reducible refine (ih k1 (by have := HK1.out; omega) _ _ l0 _ _ (l1.drop 1) (Go.bits .andNot .i64 a2 (dG)) dE _ ?side1 ?side2 ?side3 ?side4 A18.out).mono ?_); (case side1 => exact zz45); (case side2 => exact HC0.out); (case side3 => repeat (first | exact (Kd.C_below HR104.out HB.out) | (with_reducible refine Kd.C_alloc ?_ _) | (with_reducible refine Kd.C_drewN ?_ _) | (with_reducible refine Kd.C_drew ?_))); (case side4 => exact HC104.out); rintro e w21 ⟨rfl, hb⟩; refine ⟨_, rfl, ?_⟩; replace HB := zK_ (below_step zz1 hb); clear hb; refine hK.out _ _ trivial (fun hHeld => ?_); clear hK K; refine norm_ (a' := ?_) ?_ ?_; rotate_left
   ·show Act.put _ (some 44) _ = _; exact zzS
   refine zQ 12 45 (zM 15 8191) ?_
   refine zQ 13 46 (zM 15 16383) ?_
   refine zQ 14 7 (zM 15 32767) ?_
   refine done_ (done_of HT_.out (by kernel_rfl)) ?_; (try go_wp2); go_roundg k1; (case measure => have := HK1.out; omega); case rel => exact ⟨(wrap64 (b9 + (wrap64 ((wrap64 (bM * (rd (rd_L3 l0 (rd l1 0)) b3))) * dE)))), (wrap64 (-bM)), (wrap64 (b3 + 1)), zz5, zz5, zz5, H', ⟨zz34⟩, ⟨zz1⟩⟩
end Go.Proofs.Ytnbljcgdgblgoaa.P
end

section
namespace Go.Proofs.Ytnbljcgdgblgoaa.P
open Go.RowKit Go.Proofs.YtnbljcgdgblgoaaW.PrintWords Go.Proofs.YtnbljcgdgblgoaaW.PrintLast Go.Proofs.YtnbljcgdgblgoaaW.PrintMore
attribute [local go_sem] max2_int min2_int max_two min_two max_three min_three max_four min_four
set_option linter.unusedVariables false
set_option linter.unusedSimpArgs false
def impl_bitsOf.l0 : Nat → Int → List Int → Int → Option (List Int)
 | 0, _, _, _ => none
 | k + 1, x0, x3, x4 => if 0 ≤ x4 then (if (shr .i64 x0 x4) > 0 then (if (Go.bits .and .i64 (shr .i64 x0 x4) 1) = 1 then (if x3.length < 17592186044416 then (impl_bitsOf.l0 k x0 (x3 ++ [x4]) (wrap64 (x4 + 1))) else (none)) else (impl_bitsOf.l0 k x0 x3 (wrap64 (x4 + 1)))) else (some x3)) else (none)
def impl_bitsOf.f (k : Nat) (a0 : Int) : Option (List Int) := impl_bitsOf.l0 k a0 ([] : List Int) 0
theorem impl_bitsOf.mono_l : ∀ k, (∀ y0 y1 y2, LeO (impl_bitsOf.l0 k y0 y1 y2) (impl_bitsOf.l0 (k + 1) y0 y1 y2))
 | 0 => fun _ _ _ r h => by simp [impl_bitsOf.l0] at h
 | k + 1 => by
  have ih0 := impl_bitsOf.mono_l k
  ·intro y0 y1 y2
   unfold impl_bitsOf.l0
   exact zm0
theorem impl_bitsOf.mono : ∀ a0 k, LeO (impl_bitsOf.f k a0) (impl_bitsOf.f (k + 1) a0) := by
 intro a0 k; have ih0 := impl_bitsOf.mono_l k; unfold impl_bitsOf.f; exact zm0
theorem impl_bitsOf.calls (k : Nat) (a0 : Int) (r : List Int) (w : World) (h : impl_bitsOf.f k a0 = some r) :
  Calls Try.prog 145 #[.int .i64 a0] w fun e w' => ∃ v0_ : Value, e = .returned (v0_) ∧ Kd.R (Kd.int .i64) 3 w' w.heap.size (fun _ => True) v0_ r ∧ Below w.heap.size w w' := by
 have HB := zK_ (Below.refl w.heap.size w); have H : (impl_bitsOf.l0 k a0 ([] : List Int) 0) = some r := h; clear h; have H' := zK_ H; clear H; go_enter Try.func145, Try.ntmps145; go_wp2; (go_loopg [3, 4] k (fun kq v3 v4 w' => ∃ (bT : List Int) (aX : Int), v4 = .int .i64 aX ∧ Aside0 (impl_bitsOf.l0 kq a0 bT aX = some r) ∧ Aside0 (kq ≤ k) ∧ Aside0 (Kd.R (Kd.int .i64) 3 w' w.heap.size (fun _ => True) v3 bT) ∧ Aside0 (Below w.heap.size w w'))); case atStart => exact ⟨(([] : List Int)), (0), zz5, H', ⟨Nat.le_refl _⟩, ⟨zz43⟩, ⟨zz1⟩⟩
 case round =>
  clear H'; (try clear c1); obtain ⟨bT, aX, rfl, HA, HK1, bC, HB⟩ := hrel
  cases gk with
  | zero => exact absurd HA.out (by simp [impl_bitsOf.l0])
  | succ k1 =>
   have H := HA.out; clear HA; simp only [impl_bitsOf.l0] at H; by_cases c2 : 0 ≤ aX; rotate_left
   ·rw [if_neg c2] at H; exact absurd H (by simp)
   rw [if_pos c2] at H; have jW := eq_true c2; have lX : decide (0 ≤ aX) = true := decide_eq_true c2; clear c2; obtain ⟨oJ, oT⟩ : ∃ j_ : Int, (shr .i64 a0 aX) = j_ := ⟨_, rfl⟩; (replace H : (if (oJ) > 0 then (if (Go.bits .and .i64 (oJ) 1) = 1 then (if bT.length < 17592186044416 then (impl_bitsOf.l0 k1 a0 (bT ++ [aX]) (wrap64 (aX + 1))) else (none)) else (impl_bitsOf.l0 k1 a0 bT (wrap64 (aX + 1)))) else (some bT)) = some r := by first | (rw [oT] at H; exact H) | (simp only [oT] at H ⊢; exact H)); have BH : (a0 / 2 ^ min aX.toNat 64) = oJ := oT; have BG : aX ≤ 64 → (a0 / 2 ^ aX.toNat) = oJ := shr_small oT; by_cases c4 : (oJ) > 0; rotate_left
   ·rw [if_neg c4] at H; have dB : decide (0 < (oJ)) = false := decide_eq_false c4; clear c4; obtain rfl := Option.some.inj H; go_wp2; go_ret; exact ⟨_, by first | rfl | (simp [errW_none, errW_some] <;> rfl) | (simp only [← oT]; first | rfl | (simp [errW_none, errW_some] <;> rfl)) | (simp [*, errW_none, errW_some] <;> rfl), zz19, zz1⟩
   rw [if_pos c4] at H; have dB : decide (0 < (oJ)) = true := decide_eq_true c4; clear c4; have dH := eq_true (of_decide_eq_true zz3 : 0 ≤ aX); by_cases c7 : (Go.bits .and .i64 (oJ) 1) = 1; rotate_left
   ·rw [if_neg c7] at H; have dK : ((Go.bits .and .i64 (oJ) 1) == 1) = false := beq_eq_false_iff_ne.mpr c7; have kW : ((Go.bits .and .i64 (oJ) 1) != 1) = true := bne_iff_ne.mpr c7; have H' := zK_ H; clear H; go_wp2; go_roundg k1; (case measure => have := HK1.out; omega); case rel => exact ⟨(bT), (wrap64 (aX + 1)), zz5, H', ⟨zz34⟩, ⟨zz19⟩, ⟨zz1⟩⟩
   rw [if_pos c7] at H; have dK : ((Go.bits .and .i64 (oJ) 1) == 1) = true := beq_iff_eq.mpr c7; have kW : ((Go.bits .and .i64 (oJ) 1) != 1) = false := bne_eq_false_iff_eq.mpr c7; clear c7; by_cases c8 : bT.length < 17592186044416; rotate_left
   ·rw [if_neg c8] at H; exact absurd H (by simp)
   rw [if_pos c8] at H; have yQ := zK_ c8; clear c8; obtain ⟨fE, hy_⟩ : ∃ y_ : List Int, y_ = (bT ++ [aX]) := ⟨_, rfl⟩; (replace H : (impl_bitsOf.l0 k1 a0 fE (wrap64 (aX + 1))) = some r := zzY); have gK := zK_ hy_; clear hy_; have H' := zK_ H; clear H; (go_wp2_with (first | ((with_reducible refine gate_builtin (b := .append) (xs := #[.tmp 16, .tmp 18]) rfl ?_); at_builtin; refine Kd.R_append (Kd.int .i64) (w0 := w) w.heap.size rfl (.tmp 16) (.tmp 18) 26 3 (.int .i64 0) 8 rfl Try.underlying26 info3 rfl (by decide) (by omega) u3 bT aX [.int .i64 aX] (fun _ => True) (fun _ => False) rfl rfl ?aP (fun _ hk => hk.elim) ?aF ?aO ?aB ?aS ?aL ?_; (case aP => exact rfl); (case aB => exact zz1); (case aF => exact (fun _ _ => trivial)); (case aO => exact zz19); (case aS => exact (below_size zz1)); (case aL => have := yQ.out; omega); intro v102 w9 ho hb hg hat; rw [← gK.out] at ho; have n_ := zA2 hb ho; clear HB bC; obtain ⟨HB, jV⟩ := n_; clear ho hb hg hat))); go_roundg k1; (case measure => have := HK1.out; omega); case rel => exact ⟨(fE), (wrap64 (aX + 1)), zz5, H', ⟨zz34⟩, ⟨zz41⟩, ⟨zz1⟩⟩
def impl_Determinant.f (k : Nat) (l0 : List (List Int)) : Option (Int) := (impl_MatrixOk.f k l0).bind fun dF => (if dF = true then ((impl_bitsOf.f k (wrap64 ((shl .i64 1 (l0.length : Int)) - 1))).bind fun aZ => ((impl_determinant.f k l0 aZ (wrap64 ((shl .i64 1 (l0.length : Int)) - 1))).bind fun dE => (some dE))) else (some 0))
theorem impl_Determinant.mono : ∀ a0 k, LeO (impl_Determinant.f k a0) (impl_Determinant.f (k + 1) a0) := by
 intro a0 k; unfold impl_Determinant.f; repeat' first | (with_reducible apply impl_MatrixOk.mono) | (with_reducible apply impl_bitsOf.mono) | (with_reducible apply impl_determinant.mono) | (with_reducible exact LeO.refl _) | (with_reducible exact LeO.none _) | (with_reducible refine LeO.ite ?_ ?_) | (with_reducible refine LeO.bind ?_ (fun _ => ?_)) | apply impl_MatrixOk.mono | apply impl_bitsOf.mono | apply impl_determinant.mono | exact LeO.none _ | refine LeO.ite ?_ ?_ | refine LeO.bind ?_ (fun _ => ?_)
def impl_Determinant.T3 : Bool × List (List Nat × List Nat) := (true, [([], []), ([], []), ([1], [1]), ([2], [2]), ([3], [3]), ([4], [4]), ([], []), ([6], [6]), ([7], [7]), ([8], [8]), ([0, 5, 9, 5], [0, 5, 9]), ([10, 10, 0, 1, 2, 3, 4, 5, 6, 7, 8, 9, 10], [10])])
def impl_Determinant.B3 : List Nat := [0, 0, 2, 6, 14, 30, 0, 64, 192, 448, 1023, 2047]
theorem impl_Determinant.tab3 : rtab .any (opsOf Try.f120 3) = impl_Determinant.T3 := by kernel_rfl
theorem impl_Determinant.bits3 : waitsOk impl_Determinant.T3.2 impl_Determinant.B3 = true := by kernel_rfl
theorem impl_Determinant.calls (k : Nat) (A0 : Option Addr) (c0 : Nat) (l0 : List (List Int)) (r : Int) (w : World) (hr0 : Kd.C (Kd.slice 3 (Kd.int .i64)) w A0 l0.length l0) (hc0 : l0.length ≤ c0) (h : impl_Determinant.f k l0 = some r) :
  Calls Try.prog 120 #[.slice A0 l0.length c0] w fun e w' => e = .returned (.int .i64 r) ∧ Below w.heap.size w w' := by
 have HR0 := zK_ hr0; have HC0 := zK_ hc0; clear hr0 hc0; have HB := zK_ (Below.refl w.heap.size w); have H : ((impl_MatrixOk.f k l0).bind fun dF => (if dF = true then ((impl_bitsOf.f k (wrap64 ((shl .i64 1 (l0.length : Int)) - 1))).bind fun aZ => ((impl_determinant.f k l0 aZ (wrap64 ((shl .i64 1 (l0.length : Int)) - 1))).bind fun dE => (some dE))) else (some 0))) = some r := h; clear h; obtain ⟨dF, A20, H⟩ := zO_ H; (try dsimp only at H); have A2 := zK_ A20; clear A20; by_cases c3 : dF = true; rotate_left
 ·replace c3 := Bool.eq_false_iff.mpr c3; subst c3; rw [if_neg (show ¬ (false = true) by decide)] at H; obtain rfl := Option.some.inj H; go_enter Try.func120, Try.ntmps120; (go_wp2_with (first | ((with_reducible refine gate_callee (f := 143) rfl ?_); refine goesL_ (some 4) rfl rfl Try.func143 (by kernel_rfl) rfl #[.slice A0 l0.length c0] rfl zz4 ?_; (with_reducible refine (impl_MatrixOk.calls k _ _ l0 false _ ?side1 ?side2 A2.out).mono ?_); (case side1 => exact zz25); (case side2 => exact HC0.out); rintro e w' ⟨rfl, ⟨nd, rfl⟩⟩; refine ⟨_, rfl, ?_⟩))); go_ret; exact ⟨zz7, zz1⟩
 subst c3; rw [if_pos rfl] at H; obtain ⟨mU, l9⟩ : ∃ j_ : Int, (shl .i64 1 (l0.length : Int)) = j_ := ⟨_, rfl⟩; (replace H : ((impl_bitsOf.f k (wrap64 ((mU) - 1))).bind fun aZ => ((impl_determinant.f k l0 aZ (wrap64 ((mU) - 1))).bind fun dE => (some dE))) = some r := by first | (rw [l9] at H; exact H) | (simp only [l9] at H ⊢; exact H)); (try rw [l9] at A2); have oS : (IntKind.i64.wrap (1 * 2 ^ min (l0.length : Int).toNat 64)) = mU := l9; have oR : (l0.length : Int) ≤ 64 → (IntKind.i64.wrap (1 * 2 ^ (l0.length : Int).toNat)) = mU := shl_small l9; have sL : (IntKind.i64.wrap (1 * 2 ^ min l0.length 64)) = mU := oS; have sK : (l0.length : Int) ≤ 64 → (IntKind.i64.wrap (1 * 2 ^ l0.length)) = mU := oR; (have BF : (IntKind.i64.wrap (2 ^ min l0.length 64)) = mU := by have h_ := sL; rw [Int.one_mul] at h_; exact h_); (have BE : (l0.length : Int) ≤ 64 → (IntKind.i64.wrap (2 ^ l0.length)) = mU := fun hle_ => by have h_ := sK hle_; rw [Int.one_mul] at h_; exact h_); (have BD : (IntKind.i64.wrap (2 ^ min (l0.length : Int).toNat 64)) = mU := by have h_ := oS; rw [Int.one_mul] at h_; exact h_); (have BC : (l0.length : Int) ≤ 64 → (IntKind.i64.wrap (2 ^ (l0.length : Int).toNat)) = mU := fun hle_ => by have h_ := oR hle_; rw [Int.one_mul] at h_; exact h_); have BA : (wrap64 (1 * 2 ^ min (l0.length : Int).toNat 64)) = mU := (i64_w _).symm.trans oS; (have BB : (l0.length : Int) ≤ 64 → (wrap64 (1 * 2 ^ (l0.length : Int).toNat)) = mU := fun h_ => (i64_w _).symm.trans (oR h_)); obtain ⟨aZ, A50, H⟩ := zO_ H; (try dsimp only at H); have A5 := zK_ A50; clear A50; obtain ⟨dE, A70, H⟩ := zO_ H; (try dsimp only at H); have A7 := zK_ A70; clear A70; obtain rfl := Option.some.inj H; go_enter Try.func120, Try.ntmps120; (try go_wp2_with (first | ((with_reducible refine gate_callee (f := 143) rfl ?_); refine goesL_ (some 4) rfl rfl Try.func143 (by kernel_rfl) rfl #[.slice A0 l0.length c0] rfl zz4 ?_; (with_reducible refine (impl_MatrixOk.calls k _ _ l0 true _ ?side1 ?side2 A2.out).mono ?_); (case side1 => exact zz25); (case side2 => exact HC0.out); rintro e w' ⟨rfl, ⟨nd, rfl⟩⟩; refine ⟨_, rfl, ?_⟩))); replace HB := zK_ (below_drew1 (pw_below_drewN HB.out nd)); refine start_ (n := 12) (S := fun w' => True) (ds := []) (zM 12 0) (by kernel_rfl) rfl rfl trivial (fun hHeld => ?_); refine with_tabW impl_Determinant.tab3 impl_Determinant.bits3 (fun HT_ HW_ => ?_); generalize (w.drewN nd).drew = w8 at HB hHeld ⊢; refine zQ 0 6 (zM 12 1) ?_
 refine zQ 1 7 (zM 12 3) ?_
 refine zQ 2 8 (zM 12 7) ?_
 refine zQ 3 9 (zM 12 15) ?_
 refine zQ 4 10 (zM 12 31) ?_
 refine zQ 6 12 (zM 12 95) ?_
 refine zQ 7 13 (zM 12 223) ?_
 refine zQ 8 14 (zM 12 479) ?_
 refine zQ 9 15 (zM 12 991) ?_
 refine one_ (i := 5) (N := some 11) (zM 12 1023) rfl rfl (one_of HT_.out (by kernel_rfl)) (by decide) (fun K hK => ?_); refine goes_ Try.func145 (by kernel_rfl) rfl #[.int .i64 (wrap64 ((mU) - 1))] (by rfl) rfl rfl (by (try simp only [List.map_toArray, List.map_cons, List.map_nil]); first | done | (simp only [l9]; rfl) | rfl | (simp only [List.length_drop, List.length_take]; rfl)) ?_; (with_reducible refine (impl_bitsOf.calls k (wrap64 ((mU) - 1)) aZ _ A5.out).mono ?_); rintro e w9 ⟨v103, rfl, ho0, hb⟩; refine ⟨_, rfl, ?_⟩; have n_ := zA2 (Kd.R_lower ho0 (below_size zz1)) (below_step zz1 hb); clear HB; obtain ⟨cG, HB⟩ := n_; clear ho0 hb; obtain ⟨Ao10, co10, kV⟩ := Kd.R_slice cG.out; (first | subst kV | (injection kV with f1_ f2_ f3_; have f4_ := f1_.symm; have f5_ := f3_.symm; clear f1_ f2_ f3_; subst f4_; subst f5_)); refine hK.out _ _ trivial (fun hHeld => ?_); clear hK K; refine norm_ (a' := ?_) ?_ ?_; rotate_left
 ·show Act.put _ (some 11) _ = _; exact zzS
 refine one_ (i := 10) (N := some 16) (zM 12 2047) rfl rfl (one_of HT_.out (by kernel_rfl)) (by decide) (fun K hK => ?_); refine goes_ Try.func144 (by kernel_rfl) rfl #[.slice A0 l0.length c0, .slice Ao10 aZ.length co10, .int .i64 (wrap64 ((mU) - 1))] (by rfl) rfl rfl (by (try simp only [List.map_toArray, List.map_cons, List.map_nil]); first | done | (simp only [l9]; rfl) | rfl | (simp only [List.length_drop, List.length_take]; rfl)) ?_; (with_reducible refine (impl_determinant.calls k _ _ l0 _ _ aZ (wrap64 ((mU) - 1)) dE _ ?side1 ?side2 ?side3 ?side4 A7.out).mono ?_); (case side1 => exact zz45); (case side2 => exact HC0.out); (case side3 => repeat (first | exact (Kd.R_reads' cG.out).2.2 | (with_reducible refine Kd.C_alloc ?_ _) | (with_reducible refine Kd.C_drewN ?_ _) | (with_reducible refine Kd.C_drew ?_))); (case side4 => exact (Kd.R_reads' cG.out).2.1); rintro e w11 ⟨rfl, hb⟩; refine ⟨_, rfl, ?_⟩; have n_ := zA2 (Kd.R_below zz30 hb) (below_step zz1 hb); clear cG HB; obtain ⟨cG, HB⟩ := n_; clear hb; refine hK.out _ _ trivial (fun hHeld => ?_); clear hK K; refine norm_ (a' := ?_) ?_ ?_; rotate_left
 ·show Act.put _ (some 16) _ = _; exact zzS
 refine zQ 11 2 (zM 12 4095) ?_
 refine done_ (done_of HT_.out (by kernel_rfl)) ?_; (try go_wp2); go_ret; exact ⟨by first | rfl | (simp [errW_none, errW_some] <;> rfl) | (simp only [← l9]; first | rfl | (simp [errW_none, errW_some] <;> rfl)) | (simp [*, errW_none, errW_some] <;> rfl), zz1⟩
mutual
def impl_Multiplicity.j0 : Nat → Int → Int → Bool → Int → List (S57) → Option (Int)
 | 0, _, _, _, _, _ => none
 | k + 1, x1, x2, oL, aM, aJ => if oL = true then (some 0) else (impl_Multiplicity.l0 k x1 x2 0 aJ (aJ.length : Int) 0)
def impl_Multiplicity.l0 : Nat → Int → Int → Int → List (S57) → Int → Int → Option (Int)
 | 0, _, _, _, _, _, _ => none
 | k + 1, x1, x2, x7, mW, uE, qX => if qX < uE then (if 0 ≤ qX then (if qX < (mW.length : Int) then (if ((rd_T57 mW qX).f0) = (mn x1 x2) then (if ((rd_T57 mW qX).f1) = (mx x1 x2) then (impl_Multiplicity.l0 k x1 x2 (wrap64 (x7 + 1)) mW uE (wrap64 (qX + 1))) else (impl_Multiplicity.l0 k x1 x2 x7 mW uE (wrap64 (qX + 1)))) else (impl_Multiplicity.l0 k x1 x2 x7 mW uE (wrap64 (qX + 1)))) else (none)) else (none)) else (some x7)
end
def impl_Multiplicity.f (k : Nat) (aD : Int) (aA : List (S57)) (a1 : Int) (a2 : Int) : Option (Int) := if (mn a1 a2) < 0 then (impl_Multiplicity.j0 k a1 a2 true aD aA) else (if (mx a1 a2) ≥ aD then (impl_Multiplicity.j0 k a1 a2 true aD aA) else (impl_Multiplicity.j0 k a1 a2 (a1 == a2) aD aA))
theorem impl_Multiplicity.mono_l : ∀ k, (∀ y0 y1 y2 y3 y4, LeO (impl_Multiplicity.j0 k y0 y1 y2 y3 y4) (impl_Multiplicity.j0 (k + 1) y0 y1 y2 y3 y4)) ∧ (∀ y0 y1 y2 y3 y4 y5, LeO (impl_Multiplicity.l0 k y0 y1 y2 y3 y4 y5) (impl_Multiplicity.l0 (k + 1) y0 y1 y2 y3 y4 y5))
 | 0 => ⟨fun _ _ _ _ _ r h => by simp [impl_Multiplicity.j0] at h, fun _ _ _ _ _ _ r h => by simp [impl_Multiplicity.l0] at h⟩
 | k + 1 => by
  obtain ⟨ih0, ih1⟩ := impl_Multiplicity.mono_l k
  refine ⟨?_, ?_⟩
  ·intro y0 y1 y2 y3 y4
   unfold impl_Multiplicity.j0
   exact zm1
  ·intro y0 y1 y2 y3 y4 y5
   unfold impl_Multiplicity.l0
   exact zm1
theorem impl_Multiplicity.mono : ∀ a0 a1 a2 a3 k, LeO (impl_Multiplicity.f k a0 a1 a2 a3) (impl_Multiplicity.f (k + 1) a0 a1 a2 a3) := by
 intro a0 a1 a2 a3 k; obtain ⟨ih0, ih1⟩ := impl_Multiplicity.mono_l k; unfold impl_Multiplicity.f; exact zm1
theorem impl_Multiplicity.calls (k : Nat) (aD : Int) (aH : Option Addr) (aG : Nat) (aA : List (S57)) (a1 : Int) (a2 : Int) (r : Int) (w : World) (hr0_1 : Kd.C k57 w aH aA.length aA) (hc0_1 : aA.length ≤ aG) (h : impl_Multiplicity.f k aD aA a1 a2 = some r) :
  Calls Try.prog 123 #[.agg #[.int .i64 aD, .slice aH aA.length aG], .int .i64 a1, .int .i64 a2] w fun e w' => e = .returned (.int .i64 r) ∧ Below w.heap.size w w' := by
 have hu25 := Try.underlying25; have hu57 := Try.underlying57; have bL := zK_ hr0_1; have bG := zK_ hc0_1; clear hr0_1 hc0_1; have HB := zK_ (Below.refl w.heap.size w); have H : (if (mn a1 a2) < 0 then (impl_Multiplicity.j0 k a1 a2 true aD aA) else (if (mx a1 a2) ≥ aD then (impl_Multiplicity.j0 k a1 a2 true aD aA) else (impl_Multiplicity.j0 k a1 a2 (a1 == a2) aD aA))) = some r := h; clear h; have HC4 := zK_ H; clear H; go_enter Try.func123, Try.ntmps123; (go_upto_region 1 with (first | ((with_reducible refine gate_dst (N := 3) rfl ?_); (try (refine gate_guard (by rfl) ?_; dsimp only)); refine box_event ?hg (N := 3) ?hd (cs := #[.int .i64 aD, .slice aH aA.length aG]) (t := 25) ?hr ?_; (case hd => rfl); (case hg => rfl); (case hr => exact zz9); intro aE hg w5 hbox hb; have n_ := zA4 (below_step zz1 hb) hbox (zz10 : w.heap.size ≤ aE) (zz10 : w.heap.size ≤ aE); clear HB; obtain ⟨HB, aC, GW101, GE101⟩ := n_; clear hb hbox hg))); (try simp only [Act.put, List.setIfInBounds_toArray, List.set_cons_zero, List.set_cons_succ]); go_cut [26] (fun v26 wc => ∃ (kq : Nat) (nB : Bool), v26 = .bool nB ∧ Aside0 (impl_Multiplicity.j0 kq a1 a2 nB aD aA = some r) ∧ Aside0 (kq ≤ k) ∧ Aside0 (wc.heap[aE]? = some (.cells #[.int .i64 aD, (.slice aH aA.length aG)] 25 (0, 0))) ∧ Aside0 (Below w.heap.size w wc))
 case first =>
  have H := HC4.out; clear HC4; obtain ⟨wN, rK⟩ : ∃ j_ : Int, (mn a1 a2) = j_ := ⟨_, rfl⟩; (replace H : (if (wN) < 0 then (impl_Multiplicity.j0 k a1 a2 true aD aA) else (if (mx a1 a2) ≥ aD then (impl_Multiplicity.j0 k a1 a2 true aD aA) else (impl_Multiplicity.j0 k a1 a2 (a1 == a2) aD aA))) = some r := by first | (rw [rK] at H; exact H) | (simp only [rK] at H ⊢; exact H)); have AZ : (if a2 < a1 then a2 else a1) = wN := rK; by_cases c7 : (wN) < 0
  ·rw [if_pos c7] at H; have dK := decide_eq_true c7; clear c7; (first | rw [dK] | (simp only [i64_w, i32_w]; rw [dK]) | skip); have H' := zK_ H; clear H; go_wp2; (go_meet); case rel => exact ⟨_, (true), zz5, H', ⟨by first | omega | exact Nat.le_refl _⟩, ⟨zz2⟩, ⟨zz0⟩⟩
  rw [if_neg c7] at H; have dK := decide_eq_false c7; clear c7; (first | rw [dK] | (simp only [i64_w, i32_w]; rw [dK]) | skip); obtain ⟨nH, l8⟩ : ∃ j_ : Int, (mx a1 a2) = j_ := ⟨_, rfl⟩; (replace H : (if (nH) ≥ aD then (impl_Multiplicity.j0 k a1 a2 true aD aA) else (impl_Multiplicity.j0 k a1 a2 (a1 == a2) aD aA)) = some r := by first | (rw [l8] at H; exact H) | (simp only [l8] at H ⊢; exact H)); have sJ : (if a1 < a2 then a2 else a1) = nH := l8; by_cases c9 : (nH) ≥ aD
  ·rw [if_pos c9] at H; have fN : decide (aD ≤ (nH)) = true := decide_eq_true c9; clear c9; have H' := zK_ H; clear H; have cK := zC20 aC; have cJ := zC21 aC; have cI := blk_frozen aC.out 0; have cH := blk_frozen aC.out 1; go_wp2; (go_meet); case rel => exact ⟨_, (true), zz5, H', ⟨by first | omega | exact Nat.le_refl _⟩, ⟨zz2⟩, ⟨zz0⟩⟩
  rw [if_neg c9] at H; have fN : decide (aD ≤ (nH)) = false := decide_eq_false c9; clear c9; have H' := zK_ H; clear H; have fD := zC20 aC; have fC := zC21 aC; have fB := blk_frozen aC.out 0; have fA := blk_frozen aC.out 1; go_wp2; (go_meet); case rel => exact ⟨_, ((a1 == a2)), zz5, H', ⟨by first | omega | exact Nat.le_refl _⟩, ⟨zz2⟩, ⟨zz0⟩⟩
 case rest =>
  clear HC4; (try clear c1); (try clear p2); (try clear c7); (try clear dK); (try clear c9); (try clear fN); (try clear cK); (try clear cJ); (try clear fD); (try clear fC); (try clear cI); (try clear cH); (try clear fB); (try clear fA); obtain ⟨kq, nB, rfl, HA, HJ3, aC, HB⟩ := hcut
  cases kq with
  | zero => exact absurd HA.out (by simp [impl_Multiplicity.j0])
  | succ kj3 =>
   have H := HA.out; clear HA; simp only [impl_Multiplicity.j0] at H; by_cases c12 : nB = true
   ·subst c12; rw [if_pos rfl] at H; obtain rfl := Option.some.inj H; go_wp2; go_ret; exact ⟨zz7, zz0⟩
   replace c12 := Bool.eq_false_iff.mpr c12; subst c12; rw [if_neg (show ¬ (false = true) by decide)] at H; have H' := zK_ H; clear H; have lW := zC20 aC; have lV := zC21 aC; have lO := blk_frozen aC.out 0; have lN := blk_frozen aC.out 1; go_wp2; (go_loopg [7, 30] kj3 (fun kq v7 v30 w' => ∃ (gR : Int) (cW : Int), v7 = .int .i64 gR ∧ v30 = .int .i64 cW ∧ Aside0 (impl_Multiplicity.l0 kq a1 a2 gR aA (aA.length : Int) cW = some r) ∧ Aside0 (kq ≤ kj3) ∧ Aside0 (w'.heap[aE]? = some (.cells #[.int .i64 aD, (.slice aH aA.length aG)] 25 (0, 0))) ∧ Aside0 (Below w.heap.size w w'))); case atStart => exact ⟨(0), (0), zz5, zz5, H', ⟨Nat.le_refl _⟩, ⟨zz2⟩, ⟨zz0⟩⟩
   case round =>
    clear H'; (try clear c1); (try clear p2); (try clear c7); (try clear dK); (try clear c9); (try clear fN); (try clear c12); (try clear cK); (try clear cJ); (try clear fD); (try clear fC); (try clear lW); (try clear lV); (try clear cI); (try clear cH); (try clear fB); (try clear fA); (try clear lO); (try clear lN); (try clear p2); obtain ⟨gR, cW, rfl, rfl, HA, HK2, aC, HB⟩ := hrel
    cases gk with
    | zero => exact absurd HA.out (by simp [impl_Multiplicity.l0])
    | succ k2 =>
     have H := HA.out; clear HA; simp only [impl_Multiplicity.l0] at H; by_cases c14 : cW < (aA.length : Int); rotate_left
     ·rw [if_neg c14] at H; have gJ := decide_eq_false c14; clear c14; obtain rfl := Option.some.inj H; go_wp2; go_ret; exact ⟨zz7, zz0⟩
     rw [if_pos c14] at H; have gJ := decide_eq_true c14; clear c14; by_cases c15 : 0 ≤ cW; rotate_left
     ·rw [if_neg c15] at H; exact absurd H (by simp)
     rw [if_pos c15] at H; have iK := decide_eq_true c15; clear c15; by_cases c16 : cW < (aA.length : Int); rotate_left
     ·rw [if_neg c16] at H; exact absurd H (by simp)
     rw [if_pos c16] at H; have iJ := decide_eq_true c16; clear c16; obtain ⟨dG, fM⟩ : ∃ j_ : Int, (mn a1 a2) = j_ := ⟨_, rfl⟩; (replace H : (if ((rd_T57 aA cW).f0) = (dG) then (if ((rd_T57 aA cW).f1) = (mx a1 a2) then (impl_Multiplicity.l0 k2 a1 a2 (wrap64 (gR + 1)) aA (aA.length : Int) (wrap64 (cW + 1))) else (impl_Multiplicity.l0 k2 a1 a2 gR aA (aA.length : Int) (wrap64 (cW + 1)))) else (impl_Multiplicity.l0 k2 a1 a2 gR aA (aA.length : Int) (wrap64 (cW + 1)))) = some r := by first | (rw [fM] at H; exact H) | (simp only [fM] at H ⊢; exact H)); have lG : (if a2 < a1 then a2 else a1) = dG := fM; by_cases c18 : ((rd_T57 aA cW).f0) = (dG); rotate_left
     ·rw [if_neg c18] at H; have iI : (((rd_T57 aA cW).f0) == (dG)) = false := beq_eq_false_iff_ne.mpr c18; have n8 : (((rd_T57 aA cW).f0) != (dG)) = true := bne_iff_ne.mpr c18; have H' := zK_ H; clear H; have p102 : 0 ≤ (cW : Int) := of_decide_eq_true zz3; have q102 : cW < (aA.length : Int) := of_decide_eq_true zz3; obtain ⟨cS, e102, bA, bS⟩ := at_T57 bL.out cW p102 q102; cases e102; replace bA := (HB.out.cell (World.block_lt_of_cell? w _ bA)).trans bA; replace bS := (HB.out.cell (World.block_lt_of_cell? w _ bS)).trans bS; replace p102 := eq_true p102; replace q102 := eq_true q102; (go_wp2_with (first | ((with_reducible refine gate_dst (N := 9) rfl ?_); (try (refine gate_guard (by rfl) ?_; dsimp only)); refine box_event ?hg (N := 9) ?hd (cs := #[.int .i64 0, .int .i64 0]) (t := 57) ?hr ?_; (case hd => rfl); (case hg => rfl); (case hr => exact zz9); intro b7 hg w27 hbox hb; have n_ := zA7 (blk_below (g := aE) (o := .cells #[.int .i64 aD, .slice (some cS) aA.length aG] 25 (0, 0)) zz2 hb) (below_step zz0 hb) hbox (zz13 : w.heap.size ≤ b7) (zz13 : w.heap.size ≤ b7) (zz38 : aE ≠ b7) (zz39 : b7 ≠ aE); clear aC HB; obtain ⟨aC, HB, b5, GW103, GE103, cC, cU⟩ := n_; clear hb hbox hg; have AM := cU.out; have zR := cC.out; have lQ := zC20 b5; have lP := zC21 b5; have lI := blk_frozen b5.out 0; have lH := blk_frozen b5.out 1))); go_roundg k2; (case measure => have := HJ3.out; have := HK2.out; omega); case rel => exact ⟨(gR), (wrap64 (cW + 1)), zz5, zz5, H', ⟨by have := HJ3.out; have := HK2.out; omega⟩, ⟨zz15⟩, ⟨zz27⟩⟩
     rw [if_pos c18] at H; have iI : (((rd_T57 aA cW).f0) == (dG)) = true := beq_iff_eq.mpr c18; have n8 : (((rd_T57 aA cW).f0) != (dG)) = false := bne_eq_false_iff_eq.mpr c18; clear c18; obtain ⟨fU, j1⟩ : ∃ j_ : Int, (mx a1 a2) = j_ := ⟨_, rfl⟩; (replace H : (if ((rd_T57 aA cW).f1) = (fU) then (impl_Multiplicity.l0 k2 a1 a2 (wrap64 (gR + 1)) aA (aA.length : Int) (wrap64 (cW + 1))) else (impl_Multiplicity.l0 k2 a1 a2 gR aA (aA.length : Int) (wrap64 (cW + 1)))) = some r := by first | (rw [j1] at H; exact H) | (simp only [j1] at H ⊢; exact H)); have xK : (if a1 < a2 then a2 else a1) = fU := j1; by_cases c20 : ((rd_T57 aA cW).f1) = (fU); rotate_left
     ·rw [if_neg c20] at H; have k7 : (((rd_T57 aA cW).f1) == (fU)) = false := beq_eq_false_iff_ne.mpr c20; have tL : (((rd_T57 aA cW).f1) != (fU)) = true := bne_iff_ne.mpr c20; have H' := zK_ H; clear H; have p102 : 0 ≤ (cW : Int) := of_decide_eq_true zz3; have q102 : cW < (aA.length : Int) := of_decide_eq_true zz3; obtain ⟨cS, e102, bA, bS⟩ := at_T57 bL.out cW p102 q102; cases e102; replace bA := (HB.out.cell (World.block_lt_of_cell? w _ bA)).trans bA; replace bS := (HB.out.cell (World.block_lt_of_cell? w _ bS)).trans bS; replace p102 := eq_true p102; replace q102 := eq_true q102; (go_wp2_with (first | ((with_reducible refine gate_dst (N := 9) rfl ?_); (try (refine gate_guard (by rfl) ?_; dsimp only)); refine box_event ?hg (N := 9) ?hd (cs := #[.int .i64 0, .int .i64 0]) (t := 57) ?hr ?_; (case hd => rfl); (case hg => rfl); (case hr => exact zz9); intro b7 hg w24 hbox hb; have n_ := zA7 (blk_below (g := aE) (o := .cells #[.int .i64 aD, .slice (some cS) aA.length aG] 25 (0, 0)) zz2 hb) (below_step zz0 hb) hbox (zz13 : w.heap.size ≤ b7) (zz13 : w.heap.size ≤ b7) (zz38 : aE ≠ b7) (zz39 : b7 ≠ aE); clear aC HB; obtain ⟨aC, HB, b5, GW103, GE103, cC, cU⟩ := n_; clear hb hbox hg; have AR := cU.out; have zV := cC.out; have iT := zC20 b5; have iS := zC21 b5; have iP := blk_frozen b5.out 0; have iO := blk_frozen b5.out 1))); go_roundg k2; (case measure => have := HJ3.out; have := HK2.out; omega); case rel => exact ⟨(gR), (wrap64 (cW + 1)), zz5, zz5, H', ⟨by have := HJ3.out; have := HK2.out; omega⟩, ⟨zz15⟩, ⟨zz27⟩⟩
     rw [if_pos c20] at H; have k7 : (((rd_T57 aA cW).f1) == (fU)) = true := beq_iff_eq.mpr c20; have tL : (((rd_T57 aA cW).f1) != (fU)) = false := bne_eq_false_iff_eq.mpr c20; clear c20; have H' := zK_ H; clear H; have p102 : 0 ≤ (cW : Int) := of_decide_eq_true zz3; have q102 : cW < (aA.length : Int) := of_decide_eq_true zz3; obtain ⟨cS, e102, bA, bS⟩ := at_T57 bL.out cW p102 q102; cases e102; replace bA := (HB.out.cell (World.block_lt_of_cell? w _ bA)).trans bA; replace bS := (HB.out.cell (World.block_lt_of_cell? w _ bS)).trans bS; replace p102 := eq_true p102; replace q102 := eq_true q102; (go_wp2_with (first | ((with_reducible refine gate_dst (N := 9) rfl ?_); (try (refine gate_guard (by rfl) ?_; dsimp only)); refine box_event ?hg (N := 9) ?hd (cs := #[.int .i64 0, .int .i64 0]) (t := 57) ?hr ?_; (case hd => rfl); (case hg => rfl); (case hr => exact zz9); intro b7 hg w21 hbox hb; have n_ := zA7 (blk_below (g := aE) (o := .cells #[.int .i64 aD, .slice (some cS) aA.length aG] 25 (0, 0)) zz2 hb) (below_step zz0 hb) hbox (zz13 : w.heap.size ≤ b7) (zz13 : w.heap.size ≤ b7) (zz38 : aE ≠ b7) (zz39 : b7 ≠ aE); clear aC HB; obtain ⟨aC, HB, b5, GW103, GE103, cC, cU⟩ := n_; clear hb hbox hg; have q4 := cU.out; have qY := cC.out; have kJ := zC20 b5; have kI := zC21 b5; have kD := blk_frozen b5.out 0; have kC := blk_frozen b5.out 1))); go_roundg k2; (case measure => have := HJ3.out; have := HK2.out; omega); case rel => exact ⟨(wrap64 (gR + 1)), (wrap64 (cW + 1)), zz5, zz5, H', ⟨by have := HJ3.out; have := HK2.out; omega⟩, ⟨zz15⟩, ⟨zz27⟩⟩
end Go.Proofs.Ytnbljcgdgblgoaa.P
end

section
namespace Go.Proofs.Ytnbljcgdgblgoaa.P
open Go.RowKit Go.Proofs.YtnbljcgdgblgoaaW.PrintWords Go.Proofs.YtnbljcgdgblgoaaW.PrintLast Go.Proofs.YtnbljcgdgblgoaaW.PrintMore
attribute [local go_sem] max2_int min2_int max_two min_two max_three min_three max_four min_four
set_option linter.unusedVariables false
set_option linter.unusedSimpArgs false
mutual
def impl_Valence.j0 : Nat → Int → Bool → Int → List (S57) → Option (Int)
 | 0, _, _, _, _ => none
 | k + 1, x1, i3, aM, aJ => if i3 = true then (some 0) else (impl_Valence.l0 k x1 0 aJ (aJ.length : Int) 0)
def impl_Valence.l0 : Nat → Int → Int → List (S57) → Int → Int → Option (Int)
 | 0, _, _, _, _, _ => none
 | k + 1, x1, x5, iC, iB, mX => if mX < iB then (if 0 ≤ mX then (if mX < (iC.length : Int) then (if ((rd_T57 iC mX).f0) = x1 then (impl_Valence.l0 k x1 (wrap64 (x5 + 1)) iC iB (wrap64 (mX + 1))) else (if ((rd_T57 iC mX).f1) = x1 then (impl_Valence.l0 k x1 (wrap64 (x5 + 1)) iC iB (wrap64 (mX + 1))) else (impl_Valence.l0 k x1 x5 iC iB (wrap64 (mX + 1))))) else (none)) else (none)) else (some x5)
end
def impl_Valence.f (k : Nat) (aD : Int) (aA : List (S57)) (a1 : Int) : Option (Int) := if a1 < 0 then (impl_Valence.j0 k a1 true aD aA) else (impl_Valence.j0 k a1 (decide (a1 ≥ aD)) aD aA)
theorem impl_Valence.mono_l : ∀ k, (∀ y0 y1 y2 y3, LeO (impl_Valence.j0 k y0 y1 y2 y3) (impl_Valence.j0 (k + 1) y0 y1 y2 y3)) ∧ (∀ y0 y1 y2 y3 y4, LeO (impl_Valence.l0 k y0 y1 y2 y3 y4) (impl_Valence.l0 (k + 1) y0 y1 y2 y3 y4))
 | 0 => ⟨fun _ _ _ _ r h => by simp [impl_Valence.j0] at h, fun _ _ _ _ _ r h => by simp [impl_Valence.l0] at h⟩
 | k + 1 => by
  obtain ⟨ih0, ih1⟩ := impl_Valence.mono_l k
  refine ⟨?_, ?_⟩
  ·intro y0 y1 y2 y3
   unfold impl_Valence.j0
   exact zm1
  ·intro y0 y1 y2 y3 y4
   unfold impl_Valence.l0
   exact zm1
theorem impl_Valence.mono : ∀ a0 a1 a2 k, LeO (impl_Valence.f k a0 a1 a2) (impl_Valence.f (k + 1) a0 a1 a2) := by
 intro a0 a1 a2 k; obtain ⟨ih0, ih1⟩ := impl_Valence.mono_l k; unfold impl_Valence.f; exact zm1
theorem impl_Valence.calls (k : Nat) (aD : Int) (aH : Option Addr) (aG : Nat) (aA : List (S57)) (a1 : Int) (r : Int) (w : World) (hr0_1 : Kd.C k57 w aH aA.length aA) (hc0_1 : aA.length ≤ aG) (h : impl_Valence.f k aD aA a1 = some r) :
  Calls Try.prog 75 #[.agg #[.int .i64 aD, .slice aH aA.length aG], .int .i64 a1] w fun e w' => e = .returned (.int .i64 r) ∧ Below w.heap.size w w' := by
 have hu25 := Try.underlying25; have hu57 := Try.underlying57; have bL := zK_ hr0_1; have bG := zK_ hc0_1; clear hr0_1 hc0_1; have HB := zK_ (Below.refl w.heap.size w); have H : (if a1 < 0 then (impl_Valence.j0 k a1 true aD aA) else (impl_Valence.j0 k a1 (decide (a1 ≥ aD)) aD aA)) = some r := h; clear h; have HC3 := zK_ H; clear H; go_enter Try.func75, Try.ntmps75; (go_upto_region 1 with (first | ((with_reducible refine gate_dst (N := 2) rfl ?_); refine box_event ?hg (N := 2) ?hd (cs := #[.int .i64 aD, .slice aH aA.length aG]) (t := 25) ?hr ?_; (case hd => rfl); (case hg => rfl); (case hr => exact zz9); intro aE hg w4 hbox hb; have n_ := zA4 (below_step zz1 hb) hbox (zz10 : w.heap.size ≤ aE) (zz10 : w.heap.size ≤ aE); clear HB; obtain ⟨HB, aC, GW101, GE101⟩ := n_; clear hb hbox hg))); (try simp only [Act.put, List.setIfInBounds_toArray, List.set_cons_zero, List.set_cons_succ]); go_cut [15] (fun v15 wc => ∃ (kq : Nat) (nF : Bool), v15 = .bool nF ∧ Aside0 (impl_Valence.j0 kq a1 nF aD aA = some r) ∧ Aside0 (kq ≤ k) ∧ Aside0 (wc.heap[aE]? = some (.cells #[.int .i64 aD, (.slice aH aA.length aG)] 25 (0, 0))) ∧ Aside0 (Below w.heap.size w wc))
 case first =>
  have H := HC3.out; clear HC3; by_cases c5 : a1 < 0
  ·rw [if_pos c5] at H; have dH := decide_eq_true c5; clear c5; (first | rw [dH] | (simp only [i64_w, i32_w]; rw [dH]) | skip); have H' := zK_ H; clear H; go_wp2; (go_meet); case rel => exact ⟨_, (true), zz5, H', ⟨by first | omega | exact Nat.le_refl _⟩, ⟨zz2⟩, ⟨zz0⟩⟩
  rw [if_neg c5] at H; have dH := decide_eq_false c5; clear c5; (first | rw [dH] | (simp only [i64_w, i32_w]; rw [dH]) | skip); have H' := zK_ H; clear H; have gI := zC20 aC; have gH := zC21 aC; have gE := blk_frozen aC.out 0; have gD := blk_frozen aC.out 1; go_wp2; (go_meet); case rel => exact ⟨_, (decide (a1 ≥ aD)), zz5, H', ⟨by first | omega | exact Nat.le_refl _⟩, ⟨zz2⟩, ⟨zz0⟩⟩
 case rest =>
  clear HC3; (try clear p2); (try clear c5); (try clear dH); (try clear gI); (try clear gH); (try clear gE); (try clear gD); obtain ⟨kq, nF, rfl, HA, HJ2, aC, HB⟩ := hcut
  cases kq with
  | zero => exact absurd HA.out (by simp [impl_Valence.j0])
  | succ kj2 =>
   have H := HA.out; clear HA; simp only [impl_Valence.j0] at H; by_cases c7 : nF = true
   ·subst c7; rw [if_pos rfl] at H; obtain rfl := Option.some.inj H; go_wp2; go_ret; exact ⟨zz7, zz0⟩
   replace c7 := Bool.eq_false_iff.mpr c7; subst c7; rw [if_neg (show ¬ (false = true) by decide)] at H; have H' := zK_ H; clear H; have gG := zC20 aC; have gF := zC21 aC; have gC := blk_frozen aC.out 0; have gA := blk_frozen aC.out 1; go_wp2; (go_loopg [5, 19] kj2 (fun kq v5 v19 w' => ∃ (bO : Int) (dR : Int), v5 = .int .i64 bO ∧ v19 = .int .i64 dR ∧ Aside0 (impl_Valence.l0 kq a1 bO aA (aA.length : Int) dR = some r) ∧ Aside0 (kq ≤ kj2) ∧ Aside0 (w'.heap[aE]? = some (.cells #[.int .i64 aD, (.slice aH aA.length aG)] 25 (0, 0))) ∧ Aside0 (Below w.heap.size w w'))); case atStart => exact ⟨(0), (0), zz5, zz5, H', ⟨Nat.le_refl _⟩, ⟨zz2⟩, ⟨zz0⟩⟩
   case round =>
    clear H'; (try clear p2); (try clear c5); (try clear dH); (try clear c7); (try clear gI); (try clear gH); (try clear gG); (try clear gF); (try clear gE); (try clear gD); (try clear gC); (try clear gA); (try clear p2); obtain ⟨bO, dR, rfl, rfl, HA, HK2, aC, HB⟩ := hrel
    cases gk with
    | zero => exact absurd HA.out (by simp [impl_Valence.l0])
    | succ k2 =>
     have H := HA.out; clear HA; simp only [impl_Valence.l0] at H; by_cases c9 : dR < (aA.length : Int); rotate_left
     ·rw [if_neg c9] at H; have fN := decide_eq_false c9; clear c9; obtain rfl := Option.some.inj H; go_wp2; go_ret; exact ⟨zz7, zz0⟩
     rw [if_pos c9] at H; have fN := decide_eq_true c9; clear c9; by_cases c10 : 0 ≤ dR; rotate_left
     ·rw [if_neg c10] at H; exact absurd H (by simp)
     rw [if_pos c10] at H; have gS := decide_eq_true c10; clear c10; by_cases c11 : dR < (aA.length : Int); rotate_left
     ·rw [if_neg c11] at H; exact absurd H (by simp)
     rw [if_pos c11] at H; have j4 := decide_eq_true c11; clear c11; by_cases c12 : ((rd_T57 aA dR).f0) = a1
     ·rw [if_pos c12] at H; have j3 : (((rd_T57 aA dR).f0) == a1) = true := beq_iff_eq.mpr c12; have oB : (((rd_T57 aA dR).f0) != a1) = false := bne_eq_false_iff_eq.mpr c12; clear c12; have H' := zK_ H; clear H; have p102 : 0 ≤ (dR : Int) := of_decide_eq_true zz3; have q102 : dR < (aA.length : Int) := of_decide_eq_true zz3; obtain ⟨cS, e102, bA, bS⟩ := at_T57 bL.out dR p102 q102; cases e102; replace bA := (HB.out.cell (World.block_lt_of_cell? w _ bA)).trans bA; replace bS := (HB.out.cell (World.block_lt_of_cell? w _ bS)).trans bS; replace p102 := eq_true p102; replace q102 := eq_true q102; (go_wp2_with (first | ((with_reducible refine gate_dst (N := 7) rfl ?_); refine box_event ?hg (N := 7) ?hd (cs := #[.int .i64 0, .int .i64 0]) (t := 57) ?hr ?_; (case hd => rfl); (case hg => rfl); (case hr => exact zz9); intro b7 hg w13 hbox hb; have n_ := zA7 (blk_below (g := aE) (o := .cells #[.int .i64 aD, .slice (some cS) aA.length aG] 25 (0, 0)) zz2 hb) (below_step zz0 hb) hbox (zz13 : w.heap.size ≤ b7) (zz13 : w.heap.size ≤ b7) (zz38 : aE ≠ b7) (zz39 : b7 ≠ aE); clear aC HB; obtain ⟨aC, HB, b5, GW103, GE103, cC, cU⟩ := n_; clear hb hbox hg; have q9 := cU.out; have q3 := cC.out; have gQ := zC20 b5; have gP := zC21 b5; have gO := blk_frozen b5.out 0; have gN := blk_frozen b5.out 1))); go_roundg k2; (case measure => have := HJ2.out; have := HK2.out; omega); case rel => exact ⟨(wrap64 (bO + 1)), (wrap64 (dR + 1)), zz5, zz5, H', ⟨by have := HJ2.out; have := HK2.out; omega⟩, ⟨zz15⟩, ⟨zz27⟩⟩
     rw [if_neg c12] at H; have j3 : (((rd_T57 aA dR).f0) == a1) = false := beq_eq_false_iff_ne.mpr c12; have oB : (((rd_T57 aA dR).f0) != a1) = true := bne_iff_ne.mpr c12; by_cases c16 : ((rd_T57 aA dR).f1) = a1; rotate_left
     ·rw [if_neg c16] at H; have iJ : (((rd_T57 aA dR).f1) == a1) = false := beq_eq_false_iff_ne.mpr c16; have oA : (((rd_T57 aA dR).f1) != a1) = true := bne_iff_ne.mpr c16; have H' := zK_ H; clear H; have p102 : 0 ≤ (dR : Int) := of_decide_eq_true zz3; have q102 : dR < (aA.length : Int) := of_decide_eq_true zz3; obtain ⟨cS, e102, bA, bS⟩ := at_T57 bL.out dR p102 q102; cases e102; replace bA := (HB.out.cell (World.block_lt_of_cell? w _ bA)).trans bA; replace bS := (HB.out.cell (World.block_lt_of_cell? w _ bS)).trans bS; replace p102 := eq_true p102; replace q102 := eq_true q102; (go_wp2_with (first | ((with_reducible refine gate_dst (N := 7) rfl ?_); refine box_event ?hg (N := 7) ?hd (cs := #[.int .i64 0, .int .i64 0]) (t := 57) ?hr ?_; (case hd => rfl); (case hg => rfl); (case hr => exact zz9); intro b7 hg w20 hbox hb; have n_ := zA7 (blk_below (g := aE) (o := .cells #[.int .i64 aD, .slice (some cS) aA.length aG] 25 (0, 0)) zz2 hb) (below_step zz0 hb) hbox (zz13 : w.heap.size ≤ b7) (zz13 : w.heap.size ≤ b7) (zz38 : aE ≠ b7) (zz39 : b7 ≠ aE); clear aC HB; obtain ⟨aC, HB, b5, GW103, GE103, cC, cU⟩ := n_; clear hb hbox hg; have sG := cU.out; have sC := cC.out; have lU := zC20 b5; have lT := zC21 b5; have lM := blk_frozen b5.out 0; have lL := blk_frozen b5.out 1))); go_roundg k2; (case measure => have := HJ2.out; have := HK2.out; omega); case rel => exact ⟨(bO), (wrap64 (dR + 1)), zz5, zz5, H', ⟨by have := HJ2.out; have := HK2.out; omega⟩, ⟨zz15⟩, ⟨zz27⟩⟩
     rw [if_pos c16] at H; have iJ : (((rd_T57 aA dR).f1) == a1) = true := beq_iff_eq.mpr c16; have oA : (((rd_T57 aA dR).f1) != a1) = false := bne_eq_false_iff_eq.mpr c16; clear c16; have H' := zK_ H; clear H; have p102 : 0 ≤ (dR : Int) := of_decide_eq_true zz3; have q102 : dR < (aA.length : Int) := of_decide_eq_true zz3; obtain ⟨cS, e102, bA, bS⟩ := at_T57 bL.out dR p102 q102; cases e102; replace bA := (HB.out.cell (World.block_lt_of_cell? w _ bA)).trans bA; replace bS := (HB.out.cell (World.block_lt_of_cell? w _ bS)).trans bS; replace p102 := eq_true p102; replace q102 := eq_true q102; (go_wp2_with (first | ((with_reducible refine gate_dst (N := 7) rfl ?_); refine box_event ?hg (N := 7) ?hd (cs := #[.int .i64 0, .int .i64 0]) (t := 57) ?hr ?_; (case hd => rfl); (case hg => rfl); (case hr => exact zz9); intro b7 hg w17 hbox hb; have n_ := zA7 (blk_below (g := aE) (o := .cells #[.int .i64 aD, .slice (some cS) aA.length aG] 25 (0, 0)) zz2 hb) (below_step zz0 hb) hbox (zz13 : w.heap.size ≤ b7) (zz13 : w.heap.size ≤ b7) (zz38 : aE ≠ b7) (zz39 : b7 ≠ aE); clear aC HB; obtain ⟨aC, HB, b5, GW103, GE103, cC, cU⟩ := n_; clear hb hbox hg; have q7 := cU.out; have qZ := cC.out; have jL := zC20 b5; have jK := zC21 b5; have jD := blk_frozen b5.out 0; have jC := blk_frozen b5.out 1))); go_roundg k2; (case measure => have := HJ2.out; have := HK2.out; omega); case rel => exact ⟨(wrap64 (bO + 1)), (wrap64 (dR + 1)), zz5, zz5, H', ⟨by have := HJ2.out; have := HK2.out; omega⟩, ⟨zz15⟩, ⟨zz27⟩⟩
end Go.Proofs.Ytnbljcgdgblgoaa.P
end

