/- A part of the proof of FnExactInversePile. -/
import Derived.Test.YtgobnfeahffnaabBFnExactInversePile3
import Derived.Test.YtgobnfeahffnaabBFnExactInversePile2
import Derived.Test.YtgobnfeahffnaabBFnExactInversePile1
import Derived.Test.YtgobnfeahffnaabBFnExactInversePile0
import Derived.Deep.Slices
import Derived.Lib.SmallJoins
import Derived.ChangeSame
import Derived.Test.YtgobnfeahffnaabRows
import Derived.JoinedOf
import Derived.KernelRfl
section
namespace Go.Proofs.Ytgobnfeahffnaab.Cf
set_option linter.unusedVariables false
set_option linter.unusedSimpArgs false
open Go.Proofs.YtgobnfeahffnaabW.PrintWords
theorem rd_set {x : List Int} {i : Int} (h0 : 0 ≤ i) (h1 : i < x.length) (y : Int) {w : Int} (hw : 0 ≤ w) : rd (x.set i.toNat y) w = if w = i then y else rd x w := by
  obtain ⟨a, rfl⟩ := Int.eq_ofNat_of_zero_le h0
  obtain ⟨b, rfl⟩ := Int.eq_ofNat_of_zero_le hw
  simp only [Int.ofNat_eq_natCast, Int.toNat_natCast, rd_nat, List.getD_eq_getElem?_getD] at *
  by_cases c : b = a
  · subst c
    rw [List.getElem?_set_self (by omega), if_pos rfl]
    rfl
  · rw [List.getElem?_set_ne (fun y => c y.symm), if_neg (by omega)]
/-- A list's numbers lie between -B and B. -/
def Bd (x : List Int) (B : Int) : Prop := ∀ w : Int, 0 ≤ w → w < x.length → -B ≤ rd x w ∧ rd x w ≤ B
theorem Bd.mono {x : List Int} {B B' : Int} (h : Bd x B) (hB : B ≤ B') : Bd x B' := fun w h0 h1 => by have := h w h0 h1; omega
theorem Bd.of60 {p : List Int} (h : ∀ x ∈ p, -60 ≤ x ∧ x ≤ 60) : Bd p 60 := fun w h0 h1 => by
  obtain ⟨i, rfl⟩ := Int.eq_ofNat_of_zero_le h0
  have hi : i < p.length := by omega
  rw [rd_get hi]
  exact h _ (List.getElem_mem hi)
/-- x is d, less what the script s takes over these edges. -/
def Less (es : List E) (d : List Int) (s : Int → Int) (x : List Int) : Prop := x.length = d.length ∧ ∀ w : Int, 0 ≤ w → w < d.length → rd x w = rd d w - lap es s w
theorem lap_snoc (es : List E) (e : E) (s : Int → Int) (w : Int) : lap (es ++ [e]) s w = lap es s w + lapE s w e := by
  induction es with
  | nil => simp [lap, sumE]
  | cons a r ih => rw [List.cons_append, lap_cons, ih, lap_cons]; omega
theorem lap_take {es : List E} {i : Nat} (h : i < es.length) (s : Int → Int) (w : Int) : lap (es.take (i + 1)) s w = lap (es.take i) s w + lapE s w es[i] := by
  rw [List.take_succ_eq_append_getElem h, lap_snoc]
/-- The list c tells s on the first n numbers. -/
def Rep (n : Nat) (c : List Int) (s : Int → Int) : Prop := c.length = n ∧ ∀ w : Int, 0 ≤ w → w < n → rd c w = s w
theorem Rep.ext {n : Nat} {c c' : List Int} {s : Int → Int} (h : Rep n c s) (h' : Rep n c' s) : c = c' := by
  apply List.ext_getElem (by rw [h.1, h'.1])
  intro i h1 h2
  have e := h.2 i (by omega) (by have := h.1; omega)
  have e' := h'.2 i (by omega) (by have := h.1; omega)
  rw [rd_get h1] at e
  rw [rd_get h2] at e'
  rw [e, e']
theorem Rep.congr {n : Nat} {c : List Int} {s t : Int → Int} (h : Rep n c s) (he : ∀ w : Int, 0 ≤ w → w < n → s w = t w) : Rep n c t := ⟨h.1, fun w h0 h1 => (h.2 w h0 h1).trans (he w h0 h1)⟩
theorem Rep.self {n : Nat} {c : List Int} (h : c.length = n) : Rep n c (rd c) := ⟨h, fun _ _ _ => rfl⟩
theorem Rep.set {n : Nat} {c : List Int} {s : Int → Int} (h : Rep n c s) {v : Int} (h0 : 0 ≤ v) (h1 : v < n) (y : Int) : Rep n (c.set v.toNat y) (fun w => if w = v then y else s w) := by
  refine ⟨by rw [List.length_set]; exact h.1, fun w w0 w1 => ?_⟩
  rw [rd_set h0 (by rw [h.1]; exact h1) y w0, h.2 w w0 w1]
theorem rd_replicate (n : Nat) (v : Int) : rd (List.replicate n (0 : Int)) v = 0 := by
  unfold rd
  rw [List.getD_eq_getElem?_getD]
  by_cases h : v.toNat < n
  · rw [List.getElem?_replicate_of_lt h]; rfl
  · rw [List.getElem?_eq_none (by simp; omega)]; rfl
theorem Rep.zero (n : Nat) : Rep n (List.replicate n (0 : Int)) (fun _ => 0) := ⟨by simp, fun w _ _ => rd_replicate n w⟩
/-- The list of a function's first n values. -/
def repL (n : Nat) (f : Int → Int) : List Int := (List.range n).map fun i : Nat => f (i : Int)
theorem repL_len (n : Nat) (f : Int → Int) : (repL n f).length = n := by simp [repL]
theorem repL_rep (n : Nat) (f : Int → Int) : Rep n (repL n f) f := by
  refine ⟨by simp [repL], fun w h0 h1 => ?_⟩
  obtain ⟨a, rfl⟩ := Int.eq_ofNat_of_zero_le h0
  rw [rd_get (by simp [repL]; omega)]
  simp [repL]
theorem Rep.eq {n : Nat} {c : List Int} {s : Int → Int} (h : Rep n c s) : c = repL n s := h.ext (repL_rep n s)
theorem Rep.bd {n : Nat} {c : List Int} {s : Int → Int} {B : Int} (h : Rep n c s) (hb : ∀ w : Int, 0 ≤ w → w < n → -B ≤ s w ∧ s w ≤ B) : Bd c B := fun w h0 h1 => by
  rw [h.2 w h0 (by have := h.1; omega)]
  exact hb w h0 (by have := h.1; omega)
theorem Less.rep {n : Nat} {es : List E} {d x : List Int} {s : Int → Int} (hd : d.length = n) (h : Less es d s x) : Rep n x (fun w => rd d w - lap es s w) := ⟨h.1.trans hd, fun w h0 h1 => h.2 w h0 (by omega)⟩
/-- What toppling off q ends in, and how often each vertex toppled. -/
def Settled (n : Nat) (es : List E) (q : Int) (p : List Int) (r : List Int × List Int) : Prop :=
  ∃ s : Int → Int, Legal n es q (rd p) s ∧ Stable n es q (fun v => rd p v - lap es s v) ∧ Rep n r.1 (fun w => if w = q then 0 else rd p w - lap es s w) ∧ Rep n r.2 s
theorem Settled.unique {n : Nat} {es : List E} {q : Int} {p : List Int} {r r' : List Int × List Int} (h : Settled n es q p r) (h' : Settled n es q p r') : r = r' := by
  obtain ⟨s, h1, h2, h3, h4⟩ := h
  obtain ⟨t, k1, k2, k3, k4⟩ := h'
  obtain rfl := h1.unique k1 h2 k2
  exact Prod.ext (h3.ext k3) (h4.ext k4)
open Classical in
noncomputable def settleS (n : Nat) (es : List E) (q : Int) (p : List Int) : List Int × List Int := if h : ∃ r, Settled n es q p r then Classical.choose h else ([], [])
theorem Settled.eq {n : Nat} {es : List E} {q : Int} {p : List Int} {r : List Int × List Int} (h : Settled n es q p r) : r = settleS n es q p := by
  have he : ∃ r, Settled n es q p r := ⟨r, h⟩
  unfold settleS
  rw [dif_pos he]
  exact h.unique (Classical.choose_spec he)
theorem settleS_len {n : Nat} (es : List E) (q : Int) (p : List Int) (hn : n ≤ 6) : (settleS n es q p).1.length ≤ 6 ∧ (settleS n es q p).2.length ≤ 6 := by
  unfold settleS
  split
  · rename_i he
    obtain ⟨s, _, _, h3, h4⟩ := Classical.choose_spec he
    rw [h3.1, h4.1]
    exact ⟨hn, hn⟩
  · simp
def Reduced (n : Nat) (es : List E) (q : Int) (d : List Int) (r : List Int × List Int) : Prop := r.1.length = n ∧ r.2.length = n ∧ RedTo n es q (rd d) (rd r.1) (rd r.2)
theorem Reduced.unique {n : Nat} {es : List E} (hes : ∀ e ∈ es, EOk n e) {q : Int} (hq : 0 ≤ q ∧ q < n) {d : List Int} {r r' : List Int × List Int} (h : Reduced n es q d r) (h' : Reduced n es q d r') : r = r' := by
  have hu := h.2.2.unique hes hq h'.2.2
  refine Prod.ext ?_ ?_
  · exact (Rep.self h.1).ext ((Rep.self h'.1).congr fun w h0 h1 => (hu w h0 h1).1.symm)
  · exact (Rep.self h.2.1).ext ((Rep.self h'.2.1).congr fun w h0 h1 => (hu w h0 h1).2.symm)
open Classical in
noncomputable def reduceS (n : Nat) (es : List E) (q : Int) (d : List Int) : List Int × List Int := if h : ∃ r, Reduced n es q d r then Classical.choose h else ([], [])
theorem Reduced.eq {n : Nat} {es : List E} (hes : ∀ e ∈ es, EOk n e) {q : Int} (hq : 0 ≤ q ∧ q < n) {d : List Int} {r : List Int × List Int} (h : Reduced n es q d r) : r = reduceS n es q d := by
  have he : ∃ r, Reduced n es q d r := ⟨r, h⟩
  unfold reduceS
  rw [dif_pos he]
  exact h.unique hes hq (Classical.choose_spec he)
/-- The sum of a list as a sum over numbers. -/
theorem sum_rd : ∀ (n : Nat) (c : List Int), c.length = n → c.sum = sumN n (fun i => rd c (i : Int))
  | 0, c, h => by
    obtain rfl := List.length_eq_zero_iff.1 h
    rfl
  | n + 1, c, h => by
    obtain ⟨a, x, rfl⟩ : ∃ a x, c = a ++ [x] := ⟨c.dropLast, c.getLast (by rintro rfl; simp at h), (List.dropLast_concat_getLast _).symm⟩
    simp only [List.length_append, List.length_cons, List.length_nil, Nat.zero_add, Nat.add_right_cancel_iff] at h
    simp only [sumN, List.sum_append, List.sum_cons, List.sum_nil]
    rw [sum_rd n a h]
    congr 1
    · apply sumN_congr
      intro i hi
      rw [rd_get (show i < a.length by omega), rd_get (show i < (a ++ [x]).length by simp; omega), List.getElem_append_left (by omega)]
    · subst h
      rw [rd_get (show a.length < (a ++ [x]).length by simp)]
      simp
/-- A reduced divisor's numbers, where the degree is D. -/
theorem Reduced.bd {n : Nat} (hn : n ≤ 6) {es : List E} (hes : ∀ e ∈ es, EOk n e) (hel : es.length ≤ 12) {q : Int} (hq : 0 ≤ q ∧ q < n) {d : List Int} (hd : d.length = n) {r : List Int × List Int} (h : Reduced n es q d r) :
    r.1.sum = d.sum ∧ ∀ v : Int, 0 ≤ v → v < n → (v ≠ q → 0 ≤ rd r.1 v ∧ rd r.1 v ≤ 11) ∧ (v = q → d.sum - 72 ≤ rd r.1 v ∧ rd r.1 v ≤ d.sum) := by
  have h1 : r.1.sum = d.sum := by rw [sum_rd n _ h.1, sum_rd n _ hd]; exact h.2.2.degree hes
  refine ⟨h1, fun v h0 h2 => ⟨fun hv => ?_, ?_⟩⟩
  · have := h.2.2.1.lt hes h0 h2 hv
    have := val_le es v
    omega
  · rintro rfl
    have := h.2.2.1.at_q hn hes hel hq
    rw [← sum_rd n _ h.1, h1] at this
    exact this
end Go.Proofs.Ytgobnfeahffnaab.Cf
end

section
namespace Go.Proofs.Ytgobnfeahffnaab.Cf
set_option linter.unusedVariables false
set_option linter.unusedSimpArgs false
open Go.Proofs.YtgobnfeahffnaabW.PrintWords
theorem unst_ok (n : Int) (es : List E) (q : Int) (p : List Int) : ∀ (d i : Nat), (unst n es q p d i = -1 ∧ ∀ j : Nat, i ≤ j → j < i + d → (j : Int) ≠ q → rd p (j : Int) < valG n es j) ∨ ((i : Int) ≤ unst n es q p d i ∧ unst n es q p d i < i + d ∧ unst n es q p d i ≠ q ∧ valG n es (unst n es q p d i) ≤ rd p (unst n es q p d i))
  | 0, i => .inl ⟨rfl, fun j h0 h1 => by omega⟩
  | d + 1, i => by
    unfold unst
    have ih := unst_ok n es q p d (i + 1)
    by_cases h : (i : Int) = q
    · rw [if_pos h]
      rcases ih with ⟨h1, h2⟩ | ⟨h1, h2, h3⟩
      · refine .inl ⟨h1, fun j h3 h4 h5 => ?_⟩
        by_cases e : j = i
        · subst e; exact absurd h h5
        · exact h2 j (by omega) (by omega) h5
      · exact .inr ⟨by omega, by omega, h3⟩
    · rw [if_neg h]
      by_cases h2 : rd p i ≥ valG n es i
      · rw [if_pos h2]
        exact .inr ⟨by omega, by omega, h, h2⟩
      · rw [if_neg h2]
        rcases ih with ⟨h1, h3⟩ | ⟨h1, h3, h4⟩
        · refine .inl ⟨h1, fun j k1 k2 k3 => ?_⟩
          by_cases e : j = i
          · subst e; omega
          · exact h3 j (by omega) (by omega) k3
        · exact .inr ⟨by omega, by omega, h4⟩
theorem valG_in {n : Int} {es : List E} {v : Int} (h : 0 ≤ v ∧ v < n) : valG n es v = val es v := by
  unfold valG
  rw [if_pos h]
/-- No vertex is unstable: the configuration is stable. -/
theorem unst_neg {n : Nat} {es : List E} {q : Int} {p : List Int} (hp : p.length = n) (h : unst n es q p p.length 0 < 0) : Stable n es q (rd p) := by
  intro v h0 h1 hv
  rcases unst_ok n es q p p.length 0 with ⟨_, h2⟩ | ⟨h2, _⟩
  · have := h2 v.toNat (by omega) (by omega) (by omega)
    have e : ((v.toNat : Nat) : Int) = v := by omega
    rw [e, valG_in ⟨h0, h1⟩] at this
    exact this
  · omega
theorem unst_pos {n : Nat} {es : List E} {q : Int} {p : List Int} (hp : p.length = n) (h : ¬ unst n es q p p.length 0 < 0) : 0 ≤ unst n es q p p.length 0 ∧ unst n es q p p.length 0 < n ∧ unst n es q p p.length 0 ≠ q ∧ val es (unst n es q p p.length 0) ≤ rd p (unst n es q p p.length 0) := by
  rcases unst_ok n es q p p.length 0 with ⟨h1, _⟩ | ⟨h1, h2, h3, h4⟩
  · omega
  · refine ⟨by omega, by omega, h3, ?_⟩
    rw [valG_in ⟨by omega, by omega⟩] at h4
    exact h4
/-- The first vertex in debt, from one on; or -1. -/
def debtF (q : Int) (p : List Int) : Nat → Nat → Int
  | 0, _ => -1
  | d + 1, i => if (i : Int) = q then debtF q p d (i + 1) else if rd p i < 0 then i else debtF q p d (i + 1)
theorem debtF_ok (q : Int) (p : List Int) : ∀ (d i : Nat), (debtF q p d i = -1 ∧ ∀ j : Nat, i ≤ j → j < i + d → (j : Int) ≠ q → 0 ≤ rd p (j : Int)) ∨ ((i : Int) ≤ debtF q p d i ∧ debtF q p d i < i + d ∧ debtF q p d i ≠ q ∧ rd p (debtF q p d i) < 0)
  | 0, i => .inl ⟨rfl, fun j h0 h1 => by omega⟩
  | d + 1, i => by
    unfold debtF
    have ih := debtF_ok q p d (i + 1)
    by_cases h : (i : Int) = q
    · rw [if_pos h]
      rcases ih with ⟨h1, h2⟩ | ⟨h1, h2, h3⟩
      · refine .inl ⟨h1, fun j h3 h4 h5 => ?_⟩
        by_cases e : j = i
        · subst e; exact absurd h h5
        · exact h2 j (by omega) (by omega) h5
      · exact .inr ⟨by omega, by omega, h3⟩
    · rw [if_neg h]
      by_cases h2 : rd p i < 0
      · rw [if_pos h2]
        exact .inr ⟨by omega, by omega, h, h2⟩
      · rw [if_neg h2]
        rcases ih with ⟨h1, h3⟩ | ⟨h1, h3, h4⟩
        · refine .inl ⟨h1, fun j k1 k2 k3 => ?_⟩
          by_cases e : j = i
          · subst e; omega
          · exact h3 j (by omega) (by omega) k3
        · exact .inr ⟨by omega, by omega, h4⟩
theorem debt_neg {n : Nat} {q : Int} {p : List Int} (hp : p.length = n) (h : debtF q p p.length 0 < 0) : ∀ v : Int, 0 ≤ v → v < n → v ≠ q → 0 ≤ rd p v := by
  intro v h0 h1 hv
  rcases debtF_ok q p p.length 0 with ⟨_, h2⟩ | ⟨h2, _⟩
  · have := h2 v.toNat (by omega) (by omega) (by omega)
    have e : ((v.toNat : Nat) : Int) = v := by omega
    rw [e] at this
    exact this
  · omega
theorem debt_pos {n : Nat} {q : Int} {p : List Int} (hp : p.length = n) (h : ¬ debtF q p p.length 0 < 0) : 0 ≤ debtF q p p.length 0 ∧ debtF q p p.length 0 < n ∧ debtF q p p.length 0 ≠ q ∧ rd p (debtF q p p.length 0) < 0 := by
  rcases debtF_ok q p p.length 0 with ⟨h1, _⟩ | ⟨h1, h2, h3⟩
  · omega
  · exact ⟨by omega, by omega, h3⟩
/-- The edges to what burns, counted over all vertices. -/
theorem sum_pick (f : Int → Int) (n : Nat) : ∀ (b : List Int), b.Nodup → (∀ v ∈ b, 0 ≤ v ∧ v < n) → sumN n (fun w => if (w : Int) ∈ b then f w else 0) = (b.map f).sum
  | [], _, _ => by simp [sumN_zero]
  | a :: r, hb, hr => by
    have ha := hr a List.mem_cons_self
    rw [List.map_cons, List.sum_cons, ← sum_pick f n r (List.nodup_cons.1 hb).2 (fun v hv => hr v (List.mem_cons_of_mem _ hv)), ← sumN_one (n := n) a.toNat (by omega) (f a), ← sumN_add]
    apply sumN_congr
    intro i hi
    by_cases e : i = a.toNat
    · have e' : (i : Int) = a := by omega
      rw [if_pos e, e', if_pos List.mem_cons_self, if_neg (List.nodup_cons.1 hb).1]
      omega
    · have e' : (i : Int) ≠ a := by omega
      rw [if_neg e]
      simp [e']
end Go.Proofs.Ytgobnfeahffnaab.Cf
end

section
namespace Go.Proofs.Ytgobnfeahffnaab.Cf
set_option linter.unusedVariables false
set_option linter.unusedSimpArgs false
open Go.RowKit Go.Proofs.YtgobnfeahffnaabW.PrintWords Go.Proofs.Ytgobnfeahffnaab.P
theorem specFire_l0 (n : Nat) (es : List E) (hes : ∀ e ∈ es, EOk n e) (hel : es.length ≤ 12) (d s : List Int) (hd : d.length = n) (hs : s.length = n) {B K : Int} (hK : 0 ≤ K ∧ 0 ≤ B) (hbd : Bd d B) (hbs : Bd s K) (hB : B + 24 * K ≤ 4611686018427387904) :
    ∀ (k i : Nat) (x : List Int), i + k = es.length → Less (es.take i) d (rd s) x → Bd x (B + 2 * K * i) → Ep (fun r => spec_l04Fire.l0 r s x es (es.length : Int) (i : Int)) (fun r => Less es d (rd s) r ∧ Bd r (B + 24 * K)) := by
  intro k
  induction k with
  | zero =>
    intro i x hi hx hb
    obtain rfl : i = es.length := by omega
    refine Ep.up ?_
    simp only [spec_l04Fire.l0]
    refine Ep.neg (by omega) (Ep.now ⟨?_, hb.mono ?_⟩)
    · rw [List.take_length] at hx
      exact hx
    · have : 2 * K * (es.length : Int) ≤ 2 * K * 12 := Int.mul_le_mul_of_nonneg_left (by omega) (by omega)
      omega
  | succ k ih =>
    intro i x hi hx hb
    have hlt : i < es.length := by omega
    have he := hes _ (List.getElem_mem hlt)
    unfold EOk at he
    have hxl : x.length = n := hx.1.trans hd
    have hi12 : 2 * K * (i : Int) ≤ 2 * K * 12 := Int.mul_le_mul_of_nonneg_left (by omega) (by omega)
    have ba := hb es[i].f0 (by omega) (by omega)
    have bb := hb es[i].f1 (by omega) (by omega)
    have sa := hbs es[i].f0 (by omega) (by omega)
    have sb := hbs es[i].f1 (by omega) (by omega)
    refine Ep.up ?_
    simp only [spec_l04Fire.l0]
    refine Ep.pos (by omega) (Ep.pos (by omega) (Ep.pos (by omega) ?_))
    rw [rdE_get hlt, wrap_succ (by omega)]
    refine Ep.pos (by omega) (Ep.pos (by omega) (Ep.pos (by omega) (Ep.pos (by omega) (Ep.pos (by omega) (Ep.bind0 rfl (Ep.pos (by omega) ?_))))))
    rw [rd_set (x := x) (by omega) (by omega) _ (w := es[i].f1) (by omega), if_neg (by omega), wrap_id (x := rd x es[i].f0 - rd s es[i].f0) (by omega) (by omega), wrap_id (x := rd x es[i].f0 - rd s es[i].f0 + rd s es[i].f1) (by omega) (by omega), wrap_id (x := rd x es[i].f1 - rd s es[i].f1) (by omega) (by omega), wrap_id (x := rd x es[i].f1 - rd s es[i].f1 + rd s es[i].f0) (by omega) (by omega)]
    have key : ∀ w : Int, 0 ≤ w → w < n → rd ((x.set es[i].f0.toNat (rd x es[i].f0 - rd s es[i].f0 + rd s es[i].f1)).set es[i].f1.toNat (rd x es[i].f1 - rd s es[i].f1 + rd s es[i].f0)) w = rd x w - lapE (rd s) w es[i] := by
      intro w h0 h1
      rw [rd_set (by omega) (by rw [List.length_set]; omega) _ h0, rd_set (by omega) (by omega) _ h0]
      unfold lapE
      by_cases c1 : w = es[i].f1
      · rw [if_pos c1, if_neg (by omega), if_pos c1.symm, c1]
        omega
      · rw [if_neg c1]
        by_cases c0 : w = es[i].f0
        · rw [if_pos c0, if_pos c0.symm, if_neg (by omega), c0]
          omega
        · rw [if_neg c0, if_neg (by omega), if_neg (by omega)]
          omega
    refine ih (i + 1) _ (by omega) ⟨by simp [hx.1], ?_⟩ ?_
    · intro w h0 h1
      rw [key w h0 (by omega), hx.2 w h0 h1, lap_take hlt]
      omega
    · intro w h0 h1
      have h1' : w < n := by simpa [hxl] using h1
      rw [key w h0 h1']
      have := hb w h0 (by omega)
      have e : 2 * K * ((i + 1 : Nat) : Int) = 2 * K * (i : Int) + 2 * K := by
        rw [Int.natCast_add, Int.mul_add]
        omega
      rw [e]
      unfold lapE
      split <;> split <;> omega
theorem specFire (n : Nat) (hn : n ≤ 6) (es : List E) (hes : ∀ e ∈ es, EOk n e) (hel : es.length ≤ 12) (d s : List Int) (hd : d.length = n) (hs : s.length = n) {B K : Int} (hK : 0 ≤ K ∧ 0 ≤ B) (hbd : Bd d B) (hbs : Bd s K) (hB : B + 24 * K ≤ 4611686018427387904) :
    Ep (fun r => spec_l04Fire.f r (n : Int) es d s) (fun r => Less es d (rd s) r ∧ Bd r (B + 24 * K)) := by
  simp only [spec_l04Fire.f]
  refine Ep.bind0 rfl (Ep.pos (by simp; omega) ?_)
  refine specFire_l0 n es hes hel d s hd hs hK hbd hbs hB es.length 0 _ (by omega) ⟨rfl, fun w _ _ => ?_⟩ ?_
  · simp [lap, sumE]
  · simpa using hbd
theorem implFire_l0 (n : Nat) (es : List E) (hes : ∀ e ∈ es, EOk n e) (hel : es.length ≤ 12) (d : List Int) (v t : Int) (hd : d.length = n) (hv : 0 ≤ v ∧ v < n) {B K : Int} (hK : 0 ≤ K ∧ 0 ≤ B) (hbd : Bd d B) (ht : -K ≤ t ∧ t ≤ K) (hB : B + 12 * K ≤ 4611686018427387904) :
    ∀ (k i : Nat) (x : List Int), i + k = es.length → Less (es.take i) d (one v t) x → Bd x (B + K * i) → Ep (fun r => impl_fire.l0 r x v t es (es.length : Int) (i : Int)) (fun r => Less es d (one v t) r ∧ Bd r (B + 12 * K)) := by
  intro k
  induction k with
  | zero =>
    intro i x hi hx hb
    obtain rfl : i = es.length := by omega
    refine Ep.up ?_
    simp only [impl_fire.l0]
    refine Ep.neg (by omega) (Ep.now ⟨?_, hb.mono ?_⟩)
    · rw [List.take_length] at hx
      exact hx
    · have : K * (es.length : Int) ≤ K * 12 := Int.mul_le_mul_of_nonneg_left (by omega) (by omega)
      omega
  | succ k ih =>
    intro i x hi hx hb
    have hlt : i < es.length := by omega
    have he := hes _ (List.getElem_mem hlt)
    unfold EOk at he
    have hxl : x.length = n := hx.1.trans hd
    have hi12 : K * (i : Int) ≤ K * 12 := Int.mul_le_mul_of_nonneg_left (by omega) (by omega)
    have ba := hb es[i].f0 (by omega) (by omega)
    have bb := hb es[i].f1 (by omega) (by omega)
    have e1 : K * ((i + 1 : Nat) : Int) = K * (i : Int) + K := by
      rw [Int.natCast_add, Int.mul_add]
      omega
    have fin : ∀ x' : List Int, x'.length = x.length → (∀ w : Int, 0 ≤ w → w < n → rd x' w = rd x w - lapE (one v t) w es[i]) → Ep (fun r => impl_fire.l0 r x' v t es (es.length : Int) ((i + 1 : Nat) : Int)) (fun r => Less es d (one v t) r ∧ Bd r (B + 12 * K)) := by
      intro x' hl' key
      refine ih (i + 1) _ (by omega) ⟨by rw [hl']; exact hx.1, ?_⟩ ?_
      · intro w h0 h1
        rw [key w h0 (by omega), hx.2 w h0 h1, lap_take hlt]
        omega
      · intro w h0 h1
        have h1' : w < n := by omega
        rw [key w h0 h1', e1]
        have := hb w h0 (by omega)
        unfold lapE one
        (repeat' split) <;> omega
    refine Ep.up ?_
    simp only [impl_fire.l0]
    refine Ep.pos (by omega) (Ep.pos (by omega) (Ep.pos (by omega) ?_))
    rw [rdE_get hlt, wrap_succ (by omega)]
    refine Ep.ite (fun c => ?_) (fun c => Ep.ite (fun c2 => ?_) (fun c2 => ?_))
    · subst c
      refine Ep.pos (by omega) (Ep.pos (by omega) (Ep.bind0 rfl (Ep.pos (by omega) (Ep.pos (by omega) ?_))))
      rw [rd_set (x := x) (by omega) (by omega) _ (w := es[i].f1) (by omega), if_neg (by omega), wrap_id (x := rd x es[i].f0 - t) (by omega) (by omega), wrap_id (x := rd x es[i].f1 + t) (by omega) (by omega)]
      refine fin _ (by simp) ?_
      intro w h0 h1
      rw [rd_set (by omega) (by rw [List.length_set]; omega) _ h0, rd_set (by omega) (by omega) _ h0]
      unfold lapE one
      by_cases c1 : w = es[i].f1
      · subst c1; (repeat' split) <;> omega
      · by_cases c0 : w = es[i].f0
        · subst c0; (repeat' split) <;> omega
        · (repeat' split) <;> omega
    · subst c2
      refine Ep.pos (by omega) (Ep.pos (by omega) (Ep.bind0 rfl (Ep.pos (by omega) (Ep.pos (by omega) ?_))))
      rw [rd_set (x := x) (by omega) (by omega) _ (w := es[i].f0) (by omega), if_neg (by omega), wrap_id (x := rd x es[i].f1 - t) (by omega) (by omega), wrap_id (x := rd x es[i].f0 + t) (by omega) (by omega)]
      refine fin _ (by simp) ?_
      intro w h0 h1
      rw [rd_set (by omega) (by rw [List.length_set]; omega) _ h0, rd_set (by omega) (by omega) _ h0]
      unfold lapE one
      by_cases c1 : w = es[i].f1
      · subst c1; (repeat' split) <;> omega
      · by_cases c0 : w = es[i].f0
        · subst c0; (repeat' split) <;> omega
        · (repeat' split) <;> omega
    · refine fin x rfl ?_
      intro w h0 h1
      unfold lapE one
      (repeat' split) <;> omega
theorem implFire (n : Nat) (es : List E) (hes : ∀ e ∈ es, EOk n e) (hel : es.length ≤ 12) (d : List Int) (v t : Int) (hd : d.length = n) (hv : 0 ≤ v ∧ v < n) {B K : Int} (hK : 0 ≤ K ∧ 0 ≤ B) (hbd : Bd d B) (ht : -K ≤ t ∧ t ≤ K) (hB : B + 12 * K ≤ 4611686018427387904) :
    Ep (fun r => impl_fire.f r (n : Int) es d v t) (fun r => Less es d (one v t) r ∧ Bd r (B + 12 * K)) := by
  simp only [impl_fire.f]
  refine implFire_l0 n es hes hel d v t hd hv hK hbd ht hB es.length 0 _ (by omega) ⟨rfl, fun w _ _ => ?_⟩ ?_
  · simp [lap, sumE]
  · simpa using hbd
theorem copy_eq (l : List Int) (h : l.length ≤ 1048576) : impl_copyInts.f l = some l := by
  unfold impl_copyInts.f
  rw [if_pos (by simp; omega)]
  rfl
theorem Less.congr {n : Nat} {es : List E} (hes : ∀ e ∈ es, EOk n e) {d x : List Int} {s t : Int → Int} (h : Less es d s x) (he : ∀ w : Int, 0 ≤ w → w < n → s w = t w) : Less es d t x :=
  ⟨h.1, fun w h0 h1 => by rw [h.2 w h0 h1, lap_congr hes he]⟩
/-- Where the graph is valid. -/
structure Gr (n : Nat) (es : List E) (q : Int) : Prop where
  n1 : 1 ≤ n
  n6 : n ≤ 6
  hes : ∀ e ∈ es, EOk n e
  hel : es.length ≤ 12
  hj : Joined n es
  hq : 0 ≤ q ∧ q < n
theorem Gr.of {n : Nat} {es : List E} {q : Int} (h : GOk (n : Int) es) (hq : 0 ≤ q ∧ q < n) : Gr n es q := by
  obtain ⟨h1, _, h3⟩ := h
  unfold EsOk at h1
  exact ⟨by omega, by omega, h1.2.2.2, h1.2.2.1, h3, hq⟩
theorem specTop {n : Nat} {es : List E} {q : Int} (g : Gr n es q) (x : List Int) (hx : x.length = n) (v : Int) (h0 : 0 ≤ v) (h1 : v < n) (hb : Bd x 1000000) :
    Ep (fun k => spec_l10Topple.f k (n : Int) es x q v) (fun r => Rep n r (fun w => if w = q then 0 else rd x w - lap es (one v 1) w)) := by
  have hn := g.n6
  have hq := g.hq
  have hs : Rep n ((List.replicate n (0 : Int)).set v.toNat 1) (one v 1) := (Rep.zero n).set h0 h1 1
  simp only [spec_l10Topple.f]
  refine Ep.pos (by omega) (Ep.pos (by omega) (Ep.pos (by omega) (Ep.pos (by simp; omega) ?_)))
  refine Ep.bind (specFire n g.n6 es g.hes g.hel x _ hx hs.1 (B := 1000000) (K := 1) ⟨by omega, by omega⟩ hb (hs.bd (fun w _ _ => by unfold one; split <;> omega)) (by omega)) ?_
  rintro r ⟨hr, _⟩
  have hr' := (hr.congr g.hes hs.2).rep hx
  have hl := hr'.1
  refine Ep.pos (by omega) (Ep.pos (by omega) (Ep.now ?_))
  exact hr'.set hq.1 hq.2 0
/-- A configuration before it topples. -/
structure Pre (n : Nat) (q : Int) (p : List Int) : Prop where
  len : p.length = n
  bd : ∀ v : Int, 0 ≤ v → v < n → v ≠ q → 0 ≤ rd p v ∧ rd p v ≤ 1000
  at_q : rd p q = 0
theorem Legal.bds {n : Nat} {es : List E} {q : Int} (g : Gr n es q) {p : List Int} (hp : Pre n q p) {s : Int → Int} (h : Legal n es q (rd p) s) :
    (∀ v : Int, 0 ≤ v → v < n → 0 ≤ s v ∧ s v ≤ 36000) ∧ sumN n (fun i => s (i : Int)) ≤ 216000 ∧ ∀ w : Int, 0 ≤ w → w < n → -500000 ≤ rd p w - lap es s w ∧ rd p w - lap es s w ≤ 500000 := by
  have h1 := h.small g.n6 g.hes g.hj g.hq (c := 1000) (by omega) (fun v h0 h1 h2 => (hp.bd v h0 h1 h2).2)
  refine ⟨fun v h0 h2 => by have := h1.1 v h0 h2; omega, by omega, fun w h0 h2 => ?_⟩
  have h3 := lap_bd g.hes g.hel (s := s) (L := 0) (S := 36000) (by omega) (fun v h0 h2 => by have := h1.1 v h0 h2; omega) w
  by_cases e : w = q
  · subst e
    have := hp.at_q
    omega
  · have := hp.bd w h0 h2 e
    omega
theorem specSettle_l0 {n : Nat} {es : List E} {q : Int} (g : Gr n es q) {p : List Int} (hp : Pre n q p) : ∀ (k : Nat) (s : Int → Int) (x c : List Int), 216000 < sumN n (fun i => s (i : Int)) + k → Legal n es q (rd p) s → Rep n x (fun w => if w = q then 0 else rd p w - lap es s w) → Rep n c s →
    Ep (fun f => spec_l10Settle.l0 f q x c (n : Int) es) (Settled n es q p) := by
  have hn := g.n6
  have hel := g.hel
  intro k
  induction k with
  | zero =>
    intro s x c hk hs _ _
    have := hs.bds g hp
    omega
  | succ k ih =>
    intro s x c hk hs hx hc
    have hb := hs.bds g hp
    have hxl := hx.1
    have hcl := hc.1
    refine Ep.up ?_
    simp only [spec_l10Settle.l0]
    refine Ep.bind (specUnst n es x q (by omega) (by omega)) ?_
    rintro v rfl
    refine Ep.ite (fun h => Ep.now ?_) (fun h => ?_)
    · refine ⟨s, hs, fun v h0 h1 h2 => ?_, hx, hc⟩
      have h3 := unst_neg hxl h v h0 h1 h2
      have h4 := hx.2 v h0 h1
      simp only [if_neg h2] at h4
      rw [h4] at h3
      exact h3
    · have hu := unst_pos hxl h
      generalize unst n es q x x.length 0 = v at hu ⊢
      obtain ⟨h0, h1, h2, h3⟩ := hu
      have hcv := hb.1 v h0 h1
      refine Ep.bind (specTop g x hxl v h0 h1 (hx.bd fun w w0 w1 => by
        have := hb.2.2 w w0 w1
        split <;> omega)) ?_
      intro r hr
      refine Ep.pos (by omega) (Ep.pos (by omega) ?_)
      rw [hc.2 v h0 h1, wrap_id (by omega) (by omega)]
      have h4 := hx.2 v h0 h1
      simp only [if_neg h2] at h4
      rw [h4] at h3
      refine ih (fun w => s w + one v 1 w) r _ ?_ (hs.step h0 h1 h2 h3) (hr.congr fun w w0 w1 => ?_) ((hc.set h0 h1 _).congr fun w _ _ => ?_)
      · rw [sum_grow h0 h1]
        omega
      · by_cases e : w = q
        · simp only [if_pos e]
        · have h5 := hx.2 w w0 w1
          simp only [if_neg e] at h5 ⊢
          rw [h5, lap_add]
          omega
      · unfold one
        by_cases e : w = v
        · rw [if_pos e, if_pos e, e]
        · rw [if_neg e, if_neg e]
          omega
theorem specSettle' {n : Nat} {es : List E} {q : Int} (g : Gr n es q) {p : List Int} (hp : Pre n q p) : Ep (fun k => spec_l10Settle.f k (n : Int) es p q) (Settled n es q p) := by
  have hn := g.n6
  have hl := hp.len
  simp only [spec_l10Settle.f]
  refine Ep.bind0 rfl (Ep.pos (by simp; omega) (Ep.pos (by omega) (Ep.pos (by omega) ?_)))
  refine specSettle_l0 g hp 216001 (fun _ => 0) p _ ?_ .zero ((Rep.self hl).congr fun w _ _ => ?_) (Rep.zero n)
  · simp only [sumN_zero]; omega
  · rw [lap_const (c := 0) (fun _ _ => ⟨rfl, rfl⟩)]
    split
    · rename_i e
      rw [e, hp.at_q]
    · omega
theorem specSettle {n : Nat} {es : List E} {q : Int} (g : Gr n es q) {p : List Int} (hp : Pre n q p) : Ep (fun k => spec_l10Settle.f k (n : Int) es p q) (· = settleS n es q p) := (specSettle' g hp).mono fun _ hr => hr.eq
theorem implStab_l0 {n : Nat} {es : List E} {q : Int} (g : Gr n es q) {p : List Int} (hp : Pre n q p) : ∀ (k : Nat) (s : Int → Int) (x c : List Int), 216000 < sumN n (fun i => s (i : Int)) + k → Legal n es q (rd p) s → Rep n x (fun w => rd p w - lap es s w) → Rep n c s →
    Ep (fun f => impl_stabilize.l0 f q x c (unst n es q x x.length 0) (n : Int) es) (Settled n es q p) := by
  have hn := g.n6
  have hel := g.hel
  have hq := g.hq
  intro k
  induction k with
  | zero =>
    intro s x c hk hs _ _
    have := hs.bds g hp
    omega
  | succ k ih =>
    intro s x c hk hs hx hc
    have hb := hs.bds g hp
    have hxl := hx.1
    have hcl := hc.1
    refine Ep.up ?_
    simp only [impl_stabilize.l0]
    refine Ep.ite (fun h => ?_) (fun h => ?_)
    · have hu := unst_pos (es := es) (q := q) hxl (by omega)
      generalize unst n es q x x.length 0 = v at hu ⊢
      obtain ⟨h0, h1, h2, h3⟩ := hu
      have hcv := hb.1 v h0 h1
      have hxv := hb.2.2 v h0 h1
      have hvp := val_pos g.hj hq ⟨h0, h1⟩ h2
      have hx0 : rd x v = rd p v - lap es s v := hx.2 v h0 h1
      have hdv := Int.ediv_mul_le (rd x v) (b := val es v) (by omega)
      have hd0 : 1 ≤ rd x v / val es v := (Int.le_ediv_iff_mul_le hvp).2 (by omega)
      have hdm : rd x v / val es v ≤ rd x v := Int.ediv_le_self _ (by omega)
      have htd : Int.tdiv (rd x v) (val es v) = rd x v / val es v := Int.tdiv_eq_ediv_of_nonneg (by omega)
      have hbx : Bd x 1000000 := hx.bd fun w w0 w1 => by
        have := hb.2.2 w w0 w1
        omega
      refine Ep.pos (by omega) (Ep.pos (by omega) ?_)
      refine Ep.bind (implValence n es v (by omega)) ?_
      rintro _ rfl
      rw [valG_in ⟨h0, h1⟩]
      refine Ep.neg (by omega) ?_
      rw [htd, wrap_id (x := rd x v / val es v) (by omega) (by omega)]
      generalize rd x v / val es v = m at hdv hd0 hdm ⊢
      obtain ⟨m, rfl⟩ := Int.eq_ofNat_of_zero_le (a := m) (by omega)
      refine Ep.bind (implFire n es g.hes g.hel x v m hxl ⟨h0, h1⟩ (B := 1000000) (K := 1000000) ⟨by omega, by omega⟩ hbx (by omega) (by omega)) ?_
      rintro r ⟨hr, _⟩
      have hr' := hr.rep hxl
      have hrl := hr'.1
      have hs' := hs.many g.hes h0 h1 h2 m (by rw [← hx0]; exact hdv)
      have hsb := (hs'.bds g hp).1 v h0 h1
      simp only [one, if_true] at hsb
      refine Ep.pos (by omega) ?_
      rw [hc.2 v h0 h1, wrap_id (x := s v + (m : Int)) (by omega) (by omega)]
      refine Ep.bind (implUnst n es r q (by omega) (by omega)) ?_
      rintro _ rfl
      refine ih (fun w => s w + one v m w) r _ ?_ hs' (hr'.congr fun w w0 w1 => ?_) ((hc.set h0 h1 _).congr fun w _ _ => ?_)
      · rw [sum_grow h0 h1]
        omega
      · have h5 : rd x w = rd p w - lap es s w := hx.2 w w0 w1
        rw [h5, lap_add]
        omega
      · unfold one
        by_cases e : w = v
        · rw [if_pos e, if_pos e, e]
        · rw [if_neg e, if_neg e]
          omega
    · refine Ep.pos (by omega) (Ep.pos (by omega) (Ep.now ?_))
      refine ⟨s, hs, fun v h0 h1 h2 => ?_, hx.set hq.1 hq.2 0, hc⟩
      have h3 := unst_neg (es := es) (q := q) hxl (by omega) v h0 h1 h2
      rw [hx.2 v h0 h1] at h3
      exact h3
theorem implStab {n : Nat} {es : List E} {q : Int} (g : Gr n es q) {p : List Int} (hp : Pre n q p) : Ep (fun k => impl_stabilize.f k (n : Int) es p q) (· = settleS n es q p) := by
  have hn := g.n6
  have hl := hp.len
  have hel := g.hel
  simp only [impl_stabilize.f]
  refine Ep.bind0 (copy_eq p (by omega)) (Ep.pos (by omega) (Ep.pos (by omega) ?_))
  refine Ep.bind (implUnst n es p q (by omega) (by omega)) ?_
  rintro _ rfl
  refine (implStab_l0 g hp 216001 (fun _ => 0) p _ ?_ .zero ((Rep.self hl).congr fun w _ _ => ?_) (Rep.zero n)).mono fun r hr => hr.eq
  · simp only [sumN_zero]; omega
  · rw [lap_const (c := 0) (fun _ _ => ⟨rfl, rfl⟩)]
    omega
end Go.Proofs.Ytgobnfeahffnaab.Cf
end

section
namespace Go.Proofs.Ytgobnfeahffnaab.Cf
set_option linter.unusedVariables false
set_option linter.unusedSimpArgs false
open Go.RowKit Go.Proofs.YtgobnfeahffnaabW.PrintWords Go.Proofs.YtgobnfeahffnaabW.PrintMore Go.Proofs.Ytgobnfeahffnaab.P
theorem multE_alt {n : Int} {e : E} (h : EOk n e) {a b : Int} (hab : a ≠ b) : multE a b e = if e.f0 = mn a b ∧ e.f1 = mx a b then 1 else 0 := by
  unfold EOk at h
  unfold multE mn mx
  by_cases c : b < a
  · rw [if_pos c, if_neg (show ¬ a < b by omega)]
    by_cases x : e.f0 = b ∧ e.f1 = a
    · rw [if_pos (.inr x), if_pos x]
    · rw [if_neg (by omega), if_neg x]
  · rw [if_neg c, if_pos (show a < b by omega)]
    by_cases x : e.f0 = a ∧ e.f1 = b
    · rw [if_pos (.inl x), if_pos x]
    · rw [if_neg (by omega), if_neg x]
theorem mult_self {n : Int} {es : List E} (hes : ∀ e ∈ es, EOk n e) (a : Int) : mult es a a = 0 := by
  apply sumE_zero
  intro e he
  have h := hes e he
  unfold EOk at h
  unfold multE
  rw [if_neg (by omega)]
theorem mult_drop {es : List E} {i : Nat} (h : i < es.length) (a b : Int) : mult (es.drop i) a b = multE a b es[i] + mult (es.drop (i + 1)) a b := by
  rw [List.drop_eq_getElem_cons h]
  exact sumE_cons _ _ _
theorem specMult_l0 (n : Int) (es : List E) (hes : ∀ e ∈ es, EOk n e) (hel : es.length ≤ 12) (a b : Int) (hab : a ≠ b) : ∀ (d i : Nat) (c : Int), i + d = es.length → 0 ≤ c → c ≤ i → Ep (fun k => spec_Multiplicity.l0 k a b c es (es.length : Int) (i : Int)) (· = c + mult (es.drop i) a b) := by
  intro d
  induction d with
  | zero =>
    intro i c hi h0 h1
    refine Ep.up ?_
    simp only [spec_Multiplicity.l0]
    refine Ep.neg (by omega) (Ep.now ?_)
    rw [List.drop_of_length_le (by omega)]
    simp [mult, sumE]
  | succ d ih =>
    intro i c hi h0 h1
    have hlt : i < es.length := by omega
    have hk := hes _ (List.getElem_mem hlt)
    refine Ep.up ?_
    simp only [spec_Multiplicity.l0]
    refine Ep.pos (by omega) (Ep.pos (by omega) (Ep.pos (by omega) ?_))
    rw [rdE_get hlt, wrap_succ (by omega), wrap_id (x := c + 1) (by omega) (by omega), mult_drop hlt, multE_alt hk hab]
    refine Ep.ite (fun h => Ep.ite (fun h2 => ?_) (fun h2 => ?_)) (fun h => ?_)
    · rw [if_pos ⟨h, h2⟩]
      refine (ih (i + 1) (c + 1) (by omega) (by omega) (by omega)).mono ?_
      rintro _ rfl
      omega
    · rw [if_neg (fun x => h2 x.2)]
      refine (ih (i + 1) c (by omega) (by omega) (by omega)).mono ?_
      rintro _ rfl
      omega
    · rw [if_neg (fun x => h x.1)]
      refine (ih (i + 1) c (by omega) (by omega) (by omega)).mono ?_
      rintro _ rfl
      omega
theorem l02Vert_eq (n : Int) (es : List E) (v : Int) : spec_l02Vert.f n es v = some (decide (0 ≤ v ∧ v < n)) := by
  unfold spec_l02Vert.f
  by_cases h : v ≥ 0
  · rw [if_pos h]
    have : (0 ≤ v ∧ v < n) ↔ v < n := ⟨fun x => x.2, fun x => ⟨h, x⟩⟩
    simp only [this]
  · rw [if_neg h]
    have : ¬ (0 ≤ v ∧ v < n) := fun x => h x.1
    simp only [this, decide_false]
theorem specMult (n : Int) (es : List E) (hes : ∀ e ∈ es, EOk n e) (hel : es.length ≤ 12) (a b : Int) (ha : 0 ≤ a ∧ a < n) (hb : 0 ≤ b ∧ b < n) : Ep (fun k => spec_Multiplicity.f k n es a b) (· = mult es a b) := by
  simp only [spec_Multiplicity.f]
  refine Ep.bind0 (l02Vert_eq _ _ _) (Ep.pos (by simpa using ha) (Ep.bind0 (l02Vert_eq _ _ _) (Ep.pos (by simpa using hb) ?_)))
  refine Ep.up ?_
  simp only [spec_Multiplicity.j0]
  refine Ep.ite (fun h => Ep.now ?_) (fun h => ?_)
  · have : a = b := by simpa using h
    rw [this, mult_self hes]
  · have hab : a ≠ b := by simpa using h
    refine (specMult_l0 n es hes hel a b hab es.length 0 0 (by omega) (by omega) (by omega)).mono ?_
    rintro _ rfl
    simp
theorem implMult_l0 (n : Int) (es : List E) (hes : ∀ e ∈ es, EOk n e) (hel : es.length ≤ 12) (a b : Int) (hab : a ≠ b) : ∀ (d i : Nat) (c : Int), i + d = es.length → 0 ≤ c → c ≤ i → Ep (fun k => impl_Multiplicity.l0 k a b c es (es.length : Int) (i : Int)) (· = c + mult (es.drop i) a b) := by
  intro d
  induction d with
  | zero =>
    intro i c hi h0 h1
    refine Ep.up ?_
    simp only [impl_Multiplicity.l0]
    refine Ep.neg (by omega) (Ep.now ?_)
    rw [List.drop_of_length_le (by omega)]
    simp [mult, sumE]
  | succ d ih =>
    intro i c hi h0 h1
    have hlt : i < es.length := by omega
    have hk := hes _ (List.getElem_mem hlt)
    refine Ep.up ?_
    simp only [impl_Multiplicity.l0]
    refine Ep.pos (by omega) (Ep.pos (by omega) (Ep.pos (by omega) ?_))
    rw [rdE_get hlt, wrap_succ (by omega), wrap_id (x := c + 1) (by omega) (by omega), mult_drop hlt, multE_alt hk hab]
    refine Ep.ite (fun h => Ep.ite (fun h2 => ?_) (fun h2 => ?_)) (fun h => ?_)
    · rw [if_pos ⟨h, h2⟩]
      refine (ih (i + 1) (c + 1) (by omega) (by omega) (by omega)).mono ?_
      rintro _ rfl
      omega
    · rw [if_neg (fun x => h2 x.2)]
      refine (ih (i + 1) c (by omega) (by omega) (by omega)).mono ?_
      rintro _ rfl
      omega
    · rw [if_neg (fun x => h x.1)]
      refine (ih (i + 1) c (by omega) (by omega) (by omega)).mono ?_
      rintro _ rfl
      omega
theorem implMult (n : Int) (es : List E) (hes : ∀ e ∈ es, EOk n e) (hel : es.length ≤ 12) (a b : Int) (ha : 0 ≤ a ∧ a < n) (hb : 0 ≤ b ∧ b < n) : Ep (fun k => impl_Multiplicity.f k n es a b) (· = mult es a b) := by
  simp only [impl_Multiplicity.f]
  refine Ep.neg (by unfold mn; split <;> omega) (Ep.neg (by unfold mx; split <;> omega) ?_)
  refine Ep.up ?_
  simp only [impl_Multiplicity.j0]
  refine Ep.ite (fun h => Ep.now ?_) (fun h => ?_)
  · have : a = b := by simpa using h
    rw [this, mult_self hes]
  · have hab : a ≠ b := by simpa using h
    refine (implMult_l0 n es hes hel a b hab es.length 0 0 (by omega) (by omega) (by omega)).mono ?_
    rintro _ rfl
    simp
/-- The first place, counted from i; or -1. -/
def idxF (x : Int) : List Int → Nat → Int
  | [], _ => -1
  | a :: r, i => if x = a then i else idxF x r (i + 1)
theorem idxF_drop {l : List Int} {i : Nat} (h : i < l.length) (x : Int) (j : Nat) : idxF x (l.drop i) j = if x = l[i] then (j : Int) else idxF x (l.drop (i + 1)) (j + 1) := by
  rw [List.drop_eq_getElem_cons h]
  rfl
theorem idxF_mem (x : Int) : ∀ (l : List Int) (i : Nat), 0 ≤ idxF x l i ↔ x ∈ l
  | [], i => by simp [idxF]
  | a :: r, i => by
    unfold idxF
    by_cases h : x = a
    · rw [if_pos h, h]; simp
    · rw [if_neg h, idxF_mem x r (i + 1)]; simp [h]
theorem index_l0 (l : List Int) (x : Int) (hl : l.length ≤ 1048576) : ∀ (d i : Nat), i + d = l.length → Ep (fun k => slices_Index_int_int.l0 k l x (l.length : Int) (i : Int)) (· = idxF x (l.drop i) i) := by
  intro d
  induction d with
  | zero =>
    intro i hi
    refine Ep.up ?_
    simp only [slices_Index_int_int.l0]
    refine Ep.neg (by omega) (Ep.now ?_)
    rw [List.drop_of_length_le (by omega)]
    rfl
  | succ d ih =>
    intro i hi
    have hlt : i < l.length := by omega
    refine Ep.up ?_
    simp only [slices_Index_int_int.l0]
    refine Ep.pos (by omega) (Ep.pos (by omega) (Ep.pos (by omega) ?_))
    rw [rd_get hlt, wrap_succ (by omega), idxF_drop hlt]
    refine Ep.ite (fun h => Ep.now ?_) (fun h => ?_)
    · rw [if_pos h]
    · rw [if_neg h]
      exact ih (i + 1) (by omega)
theorem index_ok (l : List Int) (x : Int) (hl : l.length ≤ 1048576) : Ep (fun k => slices_Index_int_int.f k l x) (· = idxF x l 0) := by
  have := index_l0 l x hl l.length 0 (by omega)
  simp only [slices_Index_int_int.f]
  exact this
theorem contains_ok (l : List Int) (x : Int) (hl : l.length ≤ 1048576) : Ep (fun k => slices_Contains_int_int.f k l x) (· = decide (x ∈ l)) := by
  simp only [slices_Contains_int_int.f]
  refine Ep.bind (index_ok l x hl) ?_
  rintro _ rfl
  refine Ep.now ?_
  have := idxF_mem x l 0
  simp only [ge_iff_le, this]
theorem burnSum_bd {es : List E} (hel : es.length ≤ 12) (v : Int) : ∀ (b : List Int), 0 ≤ burnSum es b v ∧ burnSum es b v ≤ 12 * b.length
  | [] => by simp [burnSum]
  | a :: r => by
    have ih := burnSum_bd hel v r
    have h0 := mult_nonneg es v a
    have h1 := mult_le es v a
    unfold burnSum at ih ⊢
    rw [List.map_cons, List.sum_cons, List.length_cons]
    omega
/-- The list of truth values tells what burns. -/
def BRep (n : Nat) (x : List Bool) (b : List Int) : Prop := x.length = n ∧ ∀ w : Nat, w < n → rdOf false x (w : Int) = decide ((w : Int) ∈ b)
theorem BRep.push {n : Nat} {x : List Bool} {b : List Int} (h : BRep n x b) {v : Nat} (hv : v < n) : BRep n (x.set v true) (b ++ [(v : Int)]) := by
  refine ⟨by rw [List.length_set]; exact h.1, fun w hw => ?_⟩
  have := h.2 w hw
  simp only [rdOf, Int.toNat_natCast, List.getD_eq_getElem?_getD] at this ⊢
  by_cases e : v = w
  · subst e
    rw [List.getElem?_set_self (by have := h.1; omega)]
    simp
  · rw [List.getElem?_set_ne e, this]
    have : ¬ (w : Int) = v := by omega
    simp [this]
theorem BRep.start {n : Nat} {q : Int} (h0 : 0 ≤ q) (h1 : q < n) : BRep n ((List.replicate n false).set q.toNat true) [q] := by
  have h : BRep n (List.replicate n false) [] := ⟨by simp, fun w hw => by simp [rdOf, hw]⟩
  have := h.push (v := q.toNat) (by omega)
  have e : ((q.toNat : Nat) : Int) = q := by omega
  rw [e] at this
  exact this
theorem specBurn_l2 {n : Nat} {es : List E} {q : Int} (g : Gr n es q) (d : List Int) (hd : d.length = n) (b : List Int) (hok : b.Nodup ∧ ∀ v ∈ b, 0 ≤ v ∧ v < n) (x : List Bool) (hx : BRep n x b) (v : Nat) (hv : v < n) (next : Int) {Q : List Int → Prop}
    (hk : Ep (fun k => spec_l05Burn.l1 k d b x (if (v : Int) ∉ b ∧ rd d v < burnSum es b v then (v : Int) else next) ((v : Int) - 1) (n : Int) es) Q) :
    ∀ (dd i : Nat), i + dd = n → Ep (fun k => spec_l05Burn.l2 k d b x next (v : Int) (sumN i (fun w => if (w : Int) ∈ b then mult es v w else 0)) (i : Int) (n : Int) es) Q := by
  have hn := g.n6
  have hel := g.hel
  have hxl := hx.1
  have hbd : ∀ i, i ≤ n → 0 ≤ sumN i (fun w => if (w : Int) ∈ b then mult es v w else 0) ∧ sumN i (fun w => if (w : Int) ∈ b then mult es v w else 0) ≤ i * 12 := by
    intro i hi
    have hm : ∀ w : Nat, 0 ≤ (if (w : Int) ∈ b then mult es v w else 0) ∧ (if (w : Int) ∈ b then mult es v w else 0) ≤ 12 := by
      intro w
      have h0 := mult_nonneg es v w
      have h1 := mult_le es v w
      split <;> omega
    exact ⟨sumN_nonneg fun w _ => (hm w).1, sumN_le_const fun w _ => (hm w).2⟩
  intro dd
  induction dd with
  | zero =>
    intro i hi
    obtain rfl : i = n := by omega
    rw [sum_pick (mult es v) i b hok.1 hok.2]
    show Ep (fun k => spec_l05Burn.l2 k d b x next (v : Int) (burnSum es b v) (i : Int) (i : Int) es) Q
    refine Ep.up ?_
    simp only [spec_l05Burn.l2]
    rw [wrap_id (x := (v : Int) - 1) (by omega) (by omega)]
    refine Ep.neg (by omega) (Ep.pos (by omega) (Ep.pos (by omega) ?_))
    rw [hx.2 v hv]
    refine Ep.ite (fun h => ?_) (fun h => ?_)
    · have h' : (v : Int) ∈ b := by simpa using h
      rw [if_neg (fun y => y.1 h')] at hk
      exact hk
    · have h' : (v : Int) ∉ b := by simpa using h
      refine Ep.pos (by omega) (Ep.ite (fun h2 => ?_) (fun h2 => ?_))
      · rw [if_pos ⟨h', h2⟩] at hk
        exact hk
      · rw [if_neg (fun y => h2 y.2)] at hk
        exact hk
  | succ dd ih =>
    intro i hi
    have hb := hbd i (by omega)
    have hb1 := hbd (i + 1) (by omega)
    have ih' := ih (i + 1) (by omega)
    simp only [sumN] at ih' hb1
    refine Ep.up ?_
    simp only [spec_l05Burn.l2]
    refine Ep.pos (by omega) (Ep.pos (by omega) (Ep.pos (by omega) ?_))
    rw [hx.2 i (by omega), wrap_succ (by omega)]
    refine Ep.ite (fun h => ?_) (fun h => ?_)
    · have h' : (i : Int) ∈ b := by simpa using h
      rw [if_pos h'] at ih' hb1
      refine Ep.bind (specMult n es g.hes hel v i (by omega) (by omega)) ?_
      rintro _ rfl
      rw [wrap_id (by omega) (by omega)]
      exact ih'
    · have h' : (i : Int) ∉ b := by simpa using h
      rw [if_neg h', Int.add_zero] at ih'
      exact ih'
theorem specBurn_l1 {n : Nat} {es : List E} {q : Int} (g : Gr n es q) (d : List Int) (hd : d.length = n) (b : List Int) (hok : b.Nodup ∧ ∀ v ∈ b, 0 ≤ v ∧ v < n) (x : List Bool) (hx : BRep n x b) {Q : List Int → Prop}
    (hk : Ep (fun k => spec_l05Burn.l1 k d b x (nextB es (rd d) b n 0) (-1) (n : Int) es) Q) :
    ∀ i : Nat, i ≤ n → Ep (fun k => spec_l05Burn.l1 k d b x (nextB es (rd d) b (n - i) i) ((i : Int) - 1) (n : Int) es) Q := by
  have hn := g.n6
  intro i
  induction i with
  | zero => intro _; exact hk
  | succ i ih =>
    intro hi
    have ih' := ih (by omega)
    obtain ⟨m, hm⟩ : ∃ m, n - i = m + 1 := ⟨n - i - 1, by omega⟩
    have hm2 : n - (i + 1) = m := by omega
    rw [hm] at ih'
    unfold nextB at ih'
    rw [hm2, show (((i + 1 : Nat) : Int) - 1) = (i : Int) by omega]
    refine Ep.up ?_
    simp only [spec_l05Burn.l1]
    refine Ep.pos (by omega) ?_
    exact specBurn_l2 g d hd b hok x hx i (by omega) _ ih' n 0 (by omega)
theorem specBurn_l0 {n : Nat} {es : List E} {q : Int} (g : Gr n es q) (d : List Int) (hd : d.length = n) : ∀ (k : Nat) (b : List Int) (x : List Bool), n + 1 ≤ b.length + k → Burn n es (rd d) q b → BRep n x b → Ep (fun f => spec_l05Burn.l0 f d b x (n : Int) es) (· = burnW n es (rd d) k b) := by
  have hn := g.n6
  intro k
  induction k with
  | zero =>
    intro b x hl hb _
    have := hb.len g.hq
    omega
  | succ k ih =>
    intro b x hl hb hx
    have hok := hb.ok g.hq
    have hlen := hb.len g.hq
    have hxl := hx.1
    refine Ep.up ?_
    simp only [spec_l05Burn.l0]
    rw [wrap_id (x := (n : Int) - 1) (by omega) (by omega)]
    have h1 := specBurn_l1 (Q := (· = burnW n es (rd d) (k + 1) b)) g d hd b ⟨hok.1, hok.2.1⟩ x hx ?_ n (Nat.le_refl _)
    · rw [Nat.sub_self] at h1
      exact h1
    · unfold burnW
      have hnx := nextB_ok es (rd d) b n 0
      generalize nextB es (rd d) b n 0 = v at hnx ⊢
      refine Ep.up ?_
      simp only [spec_l05Burn.l1]
      refine Ep.neg (by omega) (Ep.ite (fun h => Ep.now ?_) (fun h => ?_))
      · rw [if_pos h]
      · rw [if_neg h]
        rcases hnx with ⟨h2, _⟩ | ⟨h2, h3, h4, h5⟩
        · omega
        · obtain ⟨v, rfl⟩ := Int.eq_ofNat_of_zero_le (a := v) (by omega)
          refine Ep.pos (by omega) (Ep.pos (by omega) (Ep.pos (by omega) ?_))
          exact ih _ _ (by simp; omega) (hb.step (by omega) (by omega) h4 h5) (hx.push (by omega))
theorem specBurn {n : Nat} {es : List E} {q : Int} (g : Gr n es q) (d : List Int) (hd : d.length = n) : Ep (fun k => spec_l05Burn.f k (n : Int) es d q) (· = burnF n es (rd d) q) := by
  have hn := g.n6
  have hq := g.hq
  simp only [spec_l05Burn.f]
  refine Ep.pos (by omega) (Ep.pos (by omega) (Ep.bind0 rfl (Ep.pos (by omega) (Ep.pos (by simp; omega) ?_))))
  exact specBurn_l0 g d hd n [q] _ (by simp; omega) .start (BRep.start hq.1 hq.2)
theorem implBurn_l2 {n : Nat} {es : List E} {q : Int} (g : Gr n es q) (d : List Int) (hd : d.length = n) (b : List Int) (hok : b.Nodup ∧ ∀ v ∈ b, 0 ≤ v ∧ v < n) (hbl : b.length ≤ n) (v : Nat) (hv : v < n) {Q : List Int → Prop}
    (hk : Ep (fun k => impl_burn.l1 k d b (if (v : Int) ∉ b ∧ rd d v < burnSum es b v then (v : Int) else -1) ((v + 1 : Nat) : Int) (n : Int) es) Q) :
    ∀ (dd i : Nat), i + dd = b.length → Ep (fun k => impl_burn.l2 k d b (-1) (v : Int) (burnSum es (b.take i) v) b (b.length : Int) (i : Int) (n : Int) es) Q := by
  have hn := g.n6
  have hel := g.hel
  intro dd
  induction dd with
  | zero =>
    intro i hi
    rw [List.take_of_length_le (by omega)]
    refine Ep.up ?_
    simp only [impl_burn.l2]
    have hw := wrap_succ (i := v) (by omega)
    rw [hw]
    refine Ep.neg (by omega) ?_
    refine Ep.bind (contains_ok b v (by omega)) ?_
    rintro _ rfl
    refine Ep.ite (fun h => ?_) (fun h => ?_)
    · have h' : (v : Int) ∈ b := by simpa using h
      rw [if_neg (fun y => y.1 h')] at hk
      exact hk
    · have h' : (v : Int) ∉ b := by simpa using h
      refine Ep.pos (by omega) (Ep.pos (by omega) (Ep.ite (fun h2 => ?_) (fun h2 => ?_)))
      · rw [if_pos ⟨h', h2⟩] at hk
        exact hk
      · rw [if_neg (fun y => h2 y.2)] at hk
        exact hk
  | succ dd ih =>
    intro i hi
    have hlt : i < b.length := by omega
    have hbi := hok.2 _ (List.getElem_mem hlt)
    have hb := burnSum_bd hel v (b.take i)
    have hml := mult_le es v b[i]
    have hm0 := mult_nonneg es v b[i]
    rw [List.length_take] at hb
    have e : burnSum es (b.take (i + 1)) v = burnSum es (b.take i) v + mult es v b[i] := by
      unfold burnSum
      rw [List.take_succ_eq_append_getElem hlt, List.map_append, List.sum_append]
      simp
    have ih' := ih (i + 1) (by omega)
    rw [e] at ih'
    refine Ep.up ?_
    simp only [impl_burn.l2]
    refine Ep.pos (by omega) (Ep.pos (by omega) (Ep.pos (by omega) ?_))
    rw [rd_get hlt, wrap_succ (by omega)]
    refine Ep.bind (implMult n es g.hes hel v b[i] (by omega) hbi) ?_
    rintro _ rfl
    rw [wrap_id (by omega) (by omega)]
    exact ih'
theorem implBurn_l1 {n : Nat} {es : List E} {q : Int} (g : Gr n es q) (d : List Int) (hd : d.length = n) (b : List Int) (hok : b.Nodup ∧ ∀ v ∈ b, 0 ≤ v ∧ v < n) (hbl : b.length ≤ n) {Q : List Int → Prop}
    (hk : Ep (fun k => if nextB es (rd d) b n 0 < 0 then some b else (if b.length < 17592186044416 then impl_burn.l0 k d (b ++ [nextB es (rd d) b n 0]) (n : Int) es else none)) Q) :
    ∀ (dd i : Nat), i + dd = n → nextB es (rd d) b n 0 = nextB es (rd d) b dd i → Ep (fun k => impl_burn.l1 k d b (-1) (i : Int) (n : Int) es) Q := by
  have hn := g.n6
  intro dd
  induction dd with
  | zero =>
    intro i hi he
    rw [he] at hk
    simp only [nextB] at hk
    refine Ep.up ?_
    simp only [impl_burn.l1]
    refine Ep.neg (by omega) (Ep.up ?_)
    simp only [impl_burn.j2]
    exact Ep.neg (by simp) hk
  | succ dd ih =>
    intro i hi he
    refine Ep.up ?_
    simp only [impl_burn.l1]
    refine Ep.pos (by omega) (Ep.up ?_)
    simp only [impl_burn.j2]
    refine Ep.pos (by simp) ?_
    have h2 := implBurn_l2 (Q := Q) g d hd b hok hbl i (by omega) ?_ b.length 0 (by omega)
    · simpa [burnSum] using h2
    · replace he : nextB es (rd d) b n 0 = (if (i : Int) ∉ b ∧ rd d i < burnSum es b i then (i : Int) else nextB es (rd d) b dd (i + 1)) := he
      by_cases h : (i : Int) ∉ b ∧ rd d i < burnSum es b i
      · rw [if_pos h] at he ⊢
        rw [he] at hk
        refine Ep.up ?_
        simp only [impl_burn.l1]
        refine Ep.ite (fun _ => ?_) (fun _ => ?_)
        · refine Ep.up ?_
          simp only [impl_burn.j2]
          exact Ep.neg (by simp) hk
        · refine Ep.up ?_
          simp only [impl_burn.j2]
          exact Ep.neg (by simp) hk
      · rw [if_neg h] at he ⊢
        exact ih (i + 1) (by omega) he
theorem implBurn_l0 {n : Nat} {es : List E} {q : Int} (g : Gr n es q) (d : List Int) (hd : d.length = n) : ∀ (k : Nat) (b : List Int), n + 1 ≤ b.length + k → Burn n es (rd d) q b → Ep (fun f => impl_burn.l0 f d b (n : Int) es) (· = burnW n es (rd d) k b) := by
  have hn := g.n6
  intro k
  induction k with
  | zero =>
    intro b hl hb
    have := hb.len g.hq
    omega
  | succ k ih =>
    intro b hl hb
    have hok := hb.ok g.hq
    have hlen := hb.len g.hq
    refine Ep.up ?_
    simp only [impl_burn.l0]
    refine implBurn_l1 (Q := (· = burnW n es (rd d) (k + 1) b)) g d hd b ⟨hok.1, hok.2.1⟩ hlen ?_ n 0 (by omega) rfl
    unfold burnW
    have hnx := nextB_ok es (rd d) b n 0
    generalize nextB es (rd d) b n 0 = v at hnx ⊢
    refine Ep.ite (fun h => Ep.now ?_) (fun h => ?_)
    · rw [if_pos h]
    · rw [if_neg h]
      rcases hnx with ⟨h2, _⟩ | ⟨h2, h3, h4, h5⟩
      · omega
      · exact Ep.pos (by omega) (ih _ (by simp; omega) (hb.step (by omega) (by omega) h4 h5))
theorem implBurn {n : Nat} {es : List E} {q : Int} (g : Gr n es q) (d : List Int) (hd : d.length = n) : Ep (fun k => impl_burn.f k (n : Int) es d q) (· = burnF n es (rd d) q) := by
  have hn := g.n6
  simp only [impl_burn.f]
  exact implBurn_l0 g d hd n [q] (by simp; omega) .start
end Go.Proofs.Ytgobnfeahffnaab.Cf
end

section
namespace Go.Proofs.Ytgobnfeahffnaab.Cf
set_option linter.unusedVariables false
set_option linter.unusedSimpArgs false
open Go.RowKit Go.Proofs.YtgobnfeahffnaabW.PrintWords Go.Proofs.Ytgobnfeahffnaab.P
theorem specDebt_l0 (q : Int) (p : List Int) (hl : p.length ≤ 1048576) : ∀ (d i : Nat), i + d = p.length → Ep (fun k => spec_l05Debt.l0 k q p (p.length : Int) (i : Int)) (· = decide (0 ≤ debtF q p d i)) := by
  intro d
  induction d with
  | zero =>
    intro i hi
    refine Ep.up ?_
    simp only [spec_l05Debt.l0]
    exact Ep.neg (by omega) (Ep.now rfl)
  | succ d ih =>
    intro i hi
    refine Ep.up ?_
    simp only [spec_l05Debt.l0]
    refine Ep.pos (by omega) (Ep.pos (by omega) (Ep.pos (by omega) ?_))
    rw [wrap_succ (by omega)]
    unfold debtF
    refine Ep.ite (fun h => ?_) (fun h => ?_)
    · rw [if_pos h]
      exact ih (i + 1) (by omega)
    · rw [if_neg h]
      refine Ep.ite (fun h2 => Ep.now ?_) (fun h2 => ?_)
      · rw [if_pos h2]
        have : (0 : Int) ≤ i := by omega
        simp
      · rw [if_neg h2]
        exact ih (i + 1) (by omega)
theorem specDebt (p : List Int) (q : Int) (hl : p.length ≤ 1048576) : Ep (fun k => spec_l05Debt.f k p q) (· = decide (0 ≤ debtF q p p.length 0)) := by
  simp only [spec_l05Debt.f]
  exact specDebt_l0 q p hl p.length 0 (by omega)
theorem implDebt_l0 (q : Int) (p : List Int) (hl : p.length ≤ 1048576) : ∀ (d i : Nat), i + d = p.length → Ep (fun k => impl_inDebt.l0 k q p (p.length : Int) (i : Int)) (· = debtF q p d i) := by
  intro d
  induction d with
  | zero =>
    intro i hi
    refine Ep.up ?_
    simp only [impl_inDebt.l0]
    exact Ep.neg (by omega) (Ep.now rfl)
  | succ d ih =>
    intro i hi
    refine Ep.up ?_
    simp only [impl_inDebt.l0]
    refine Ep.pos (by omega) (Ep.pos (by omega) (Ep.pos (by omega) ?_))
    rw [wrap_succ (by omega)]
    unfold debtF
    refine Ep.ite (fun h => ?_) (fun h => ?_)
    · rw [if_pos h]
      exact ih (i + 1) (by omega)
    · rw [if_neg h]
      refine Ep.ite (fun h2 => Ep.now ?_) (fun h2 => ?_)
      · rw [if_pos h2]
      · rw [if_neg h2]
        exact ih (i + 1) (by omega)
theorem implDebt (p : List Int) (q : Int) (hl : p.length ≤ 1048576) : Ep (fun k => impl_inDebt.f k p q) (· = debtF q p p.length 0) := by
  simp only [impl_inDebt.f]
  exact implDebt_l0 q p hl p.length 0 (by omega)
/-- t has been borrowed. -/
def Owed (n : Nat) (es : List E) (q : Int) (d : List Int) (t : Int → Int) : Prop := Legal n es q (dual es (rd d)) t
theorem Owed.bds {n : Nat} {es : List E} {q : Int} (g : Gr n es q) {d : List Int} (hd : d.length = n) (hb : Bd d 1000) {t : Int → Int} (h : Owed n es q d t) :
    (∀ v : Int, 0 ≤ v → v < n → 0 ≤ t v ∧ t v ≤ 36432) ∧ sumN n (fun i => t (i : Int)) ≤ 218592 ∧ t q = 0 ∧ ∀ w : Int, 0 ≤ w → w < n → -440000 ≤ rd d w + lap es t w ∧ rd d w + lap es t w ≤ 440000 := by
  have h1 := Legal.small g.n6 g.hes g.hj g.hq h (c := 1012) (by omega) (fun v h0 h1 h2 => by
    unfold dual
    have := hb v h0 (by omega)
    have := val_le es v
    have := g.hel
    omega)
  refine ⟨fun v h0 h2 => by have := h1.1 v h0 h2; omega, by omega, h.nonneg.2, fun w h0 h2 => ?_⟩
  have h3 := lap_bd g.hes g.hel (s := t) (L := 0) (S := 36432) (by omega) (fun v h0 h2 => by have := h1.1 v h0 h2; omega) w
  have := hb w h0 (by omega)
  omega
theorem Owed.zero {n : Nat} {es : List E} {q : Int} {d : List Int} : Owed n es q d (fun _ => 0) := Legal.zero
theorem Owed.step {n : Nat} {es : List E} {q : Int} {d : List Int} {t : Int → Int} (h : Owed n es q d t) {v : Int} (h0 : 0 ≤ v) (h1 : v < n) (hv : v ≠ q) (hd : rd d v + lap es t v < 0) : Owed n es q d (fun w => t w + one v 1 w) :=
  Legal.step h h0 h1 hv (by unfold dual; omega)
theorem specRed_l1 {n : Nat} {es : List E} {q : Int} (g : Gr n es q) {d : List Int} (hd : d.length = n) (hb : Bd d 1000) (t0 : Int → Int) {Q : List Int × List Int → Prop}
    (hk : ∀ (t : Int → Int) (s x : List Int), Owed n es q d t → Rep n s (fun w => - t w) → Rep n x (fun w => rd d w + lap es t w) → (sumN n (fun i => t0 (i : Int)) < sumN n (fun i => t (i : Int)) ∨ (t = t0 ∧ ∀ v : Int, 0 ≤ v → v < n → v ≠ q → 0 ≤ rd d v + lap es t v)) → Ep (fun k => spec_l05Reduce.l0 k d q s x (n : Int) es) Q) :
    ∀ (dd i : Nat) (t : Int → Int) (s x : List Int), i + dd = n → Owed n es q d t → Rep n s (fun w => - t w) → Rep n x (fun w => rd d w + lap es t w) → (sumN n (fun i => t0 (i : Int)) < sumN n (fun i => t (i : Int)) ∨ (t = t0 ∧ ∀ v : Int, 0 ≤ v → v < i → v ≠ q → 0 ≤ rd d v + lap es t v)) → Ep (fun k => spec_l05Reduce.l1 k d q s x (n : Int) (i : Int) (n : Int) es) Q := by
  have hn := g.n6
  intro dd
  induction dd with
  | zero =>
    intro i t s x hi ho hs hx hg
    obtain rfl : i = n := by omega
    refine Ep.up ?_
    simp only [spec_l05Reduce.l1]
    exact Ep.neg (by omega) (hk t s x ho hs hx hg)
  | succ dd ih =>
    intro i t s x hi ho hs hx hg
    have hbd := ho.bds g hd hb
    have hxl := hx.1
    have hsl := hs.1
    have hxi : rd x (i : Int) = rd d (i : Int) + lap es t (i : Int) := hx.2 i (by omega) (by omega)
    have hsi : rd s (i : Int) = - t (i : Int) := hs.2 i (by omega) (by omega)
    have hti := hbd.1 i (by omega) (by omega)
    refine Ep.up ?_
    simp only [spec_l05Reduce.l1]
    rw [wrap_succ (by omega)]
    refine Ep.pos (by omega) (Ep.ite (fun h => ?_) (fun h => Ep.pos (by omega) (Ep.pos (by omega) (Ep.ite (fun h2 => ?_) (fun h2 => ?_)))))
    · refine ih (i + 1) t s x (by omega) ho hs hx ?_
      rcases hg with hg | ⟨hg, hg2⟩
      · exact .inl hg
      · refine .inr ⟨hg, fun v v0 v1 v2 => ?_⟩
        by_cases e : v = i
        · exact absurd (e.trans h) v2
        · exact hg2 v v0 (by omega) v2
    · refine Ep.pos (by omega) (Ep.bind0 rfl ?_)
      rw [hsi, wrap_id (by omega) (by omega)]
      have ho' := ho.step (v := (i : Int)) (by omega) (by omega) h (by omega)
      have hbd' := ho'.bds g hd hb
      have hs' : Rep n (s.set (i : Int).toNat (- t (i : Int) - 1)) (fun w => - (t w + one (i : Int) 1 w)) := (hs.set (v := (i : Int)) (by omega) (by omega) _).congr fun w _ _ => by
        unfold one
        by_cases e : w = i
        · rw [if_pos e, if_pos e, e]; omega
        · rw [if_neg e, if_neg e]; omega
      refine Ep.bind (specFire n hn es g.hes g.hel d _ hd hs'.1 (B := 1000) (K := 100000) ⟨by omega, by omega⟩ hb (hs'.bd fun w w0 w1 => by have := hbd'.1 w w0 w1; omega) (by omega)) ?_
      rintro r ⟨hr, _⟩
      refine ih (i + 1) _ _ r (by omega) ho' hs' (((hr.congr g.hes hs'.2).rep hd).congr fun w w0 w1 => ?_) (.inl ?_)
      · rw [lap_neg es (fun w => t w + one (i : Int) 1 w)]; omega
      · rw [sum_grow (by omega) (by omega)]
        rcases hg with hg | ⟨hg, _⟩
        · omega
        · rw [hg]; omega
    · refine ih (i + 1) t s x (by omega) ho hs hx ?_
      rcases hg with hg | ⟨hg, hg2⟩
      · exact .inl hg
      · refine .inr ⟨hg, fun v v0 v1 v2 => ?_⟩
        by_cases e : v = i
        · rw [e]; omega
        · exact hg2 v v0 (by omega) v2
/-- Debts are paid: what is left to do. -/
theorem specRed_l0 {n : Nat} {es : List E} {q : Int} (g : Gr n es q) {d : List Int} (hd : d.length = n) (hb : Bd d 1000) {Q : List Int × List Int → Prop}
    (hk : ∀ (t : Int → Int) (s x : List Int), Owed n es q d t → Rep n s (fun w => - t w) → Rep n x (fun w => rd d w + lap es t w) → (∀ v : Int, 0 ≤ v → v < n → v ≠ q → 0 ≤ rd d v + lap es t v) → Ep (fun k => spec_l05Reduce.l2 k d q s x (n : Int) es) Q) :
    ∀ (k : Nat) (t : Int → Int) (s x : List Int), 218592 < sumN n (fun i => t (i : Int)) + k → Owed n es q d t → Rep n s (fun w => - t w) → Rep n x (fun w => rd d w + lap es t w) → Ep (fun f => spec_l05Reduce.l0 f d q s x (n : Int) es) Q := by
  have hn := g.n6
  intro k
  induction k with
  | zero =>
    intro t s x hs ho _ _
    have := ho.bds g hd hb
    omega
  | succ k ih =>
    intro t s x hm ho hs hx
    have hxl := hx.1
    refine Ep.up ?_
    simp only [spec_l05Reduce.l0]
    refine Ep.bind (specDebt x q (by omega)) ?_
    rintro _ rfl
    refine Ep.ite (fun h => ?_) (fun h => ?_)
    · have h' : 0 ≤ debtF q x x.length 0 := by simpa using h
      have hp := debt_pos (q := q) hxl (by omega)
      rw [hxl]
      rw [hxl] at hp
      generalize debtF q x n 0 = u at hp
      have hxu : rd x u = rd d u + lap es t u := hx.2 u hp.1 hp.2.1
      refine specRed_l1 g hd hb t (fun t' s' x' ho' hs' hx' hg => ih t' s' x' ?_ ho' hs' hx') n 0 t s x (by omega) ho hs hx (.inr ⟨rfl, fun v v0 v1 => by omega⟩)
      rcases hg with hg | ⟨rfl, hg⟩
      · omega
      · have := hg u hp.1 hp.2.1 hp.2.2.1
        omega
    · have h' : ¬ 0 ≤ debtF q x x.length 0 := by simpa using h
      refine hk t s x ho hs hx fun v v0 v1 v2 => ?_
      have := debt_neg (q := q) hxl (by omega) v v0 v1 v2
      have hxv : rd x v = rd d v + lap es t v := hx.2 v v0 v1
      omega
structure Sec (n : Nat) (es : List E) (q : Int) (d : List Int) (t u : Int → Int) : Prop where
  ow : Owed n es q d t
  sets : Sets n es q (fun v => rd d v + lap es t v) u
theorem Sec.bds {n : Nat} {es : List E} {q : Int} (g : Gr n es q) {d : List Int} (hd : d.length = n) (hb : Bd d 1000) {t u : Int → Int} (h : Sec n es q d t u) :
    (∀ v : Int, 0 ≤ v → v < n → 0 ≤ u v ∧ u v ≤ 15840000) ∧ sumN n (fun i => u (i : Int)) ≤ 95040000 ∧ (∀ v : Int, 0 ≤ v → v < n → -15880000 ≤ u v - t v ∧ u v - t v ≤ 15880000) ∧ ∀ w : Int, 0 ≤ w → w < n → -200000000 ≤ rd d w + lap es t w - lap es u w ∧ rd d w + lap es t w - lap es u w ≤ 200000000 := by
  have h1 := h.ow.bds g hd hb
  have h2 := h.sets.small g.n6 g.hes g.hj g.hq (c := 440000) (by omega) (fun v h0 h2 _ => (h1.2.2.2 v h0 h2).2)
  refine ⟨fun v h0 h3 => by have := h2.1 v h0 h3; omega, by omega, fun v h0 h3 => by have := h2.1 v h0 h3; have := h1.1 v h0 h3; omega, fun w h0 h3 => ?_⟩
  have h4 := lap_bd g.hes g.hel (s := u) (L := 0) (S := 15840000) (by omega) (fun v h0 h2' => by have := h2.1 v h0 h2'; omega) w
  have := h1.2.2.2 w h0 h3
  omega
theorem Sec.done {n : Nat} {es : List E} {q : Int} (g : Gr n es q) {d : List Int} {t u : Int → Int} (h : Sec n es q d t u) {s x : List Int} (hs : Rep n s (fun w => u w - t w)) (hx : Rep n x (fun w => rd d w + lap es t w - lap es u w)) {b : List Int} (hbu : Burn n es (rd x) q b) (hl : b.length = n) : Reduced n es q d (x, s) := by
  refine ⟨hx.1, hs.1, hbu.red g.hes g.hq hl (fun v v0 v1 v2 => ?_), ?_, fun v v0 v1 => ?_⟩
  · rw [hx.2 v v0 v1]
    exact h.sets.keeps v v0 v1 v2
  · have e : rd s q = u q - t q := hs.2 q g.hq.1 g.hq.2
    show rd s q = 0
    rw [e, h.sets.at_q, h.ow.nonneg.2]
    rfl
  · have e : rd x v = rd d v + lap es t v - lap es u v := hx.2 v v0 v1
    show rd x v = rd d v - lap es (rd s) v
    rw [e, lap_congr g.hes (t := fun w => u w - t w) hs.2, lap_sub]
    omega
/-- What is not reached by the fire, among the first i. -/
def unbTo (b : List Int) (i : Int) (v : Int) : Int := if v < i then unb b v else 0
theorem unbTo_succ {b : List Int} {i : Int} (hm : i ∉ b) (v : Int) : unbTo b (i + 1) v = unbTo b i v + one i 1 v := by
  unfold unbTo one
  by_cases c : v = i
  · rw [c, if_pos (by omega), if_neg (by omega), if_pos rfl, unb_not hm]; rfl
  · rw [if_neg c]
    by_cases c2 : v < i
    · rw [if_pos (by omega), if_pos c2]; omega
    · rw [if_neg (by omega), if_neg c2]; rfl
theorem unbTo_stay {b : List Int} {i : Int} (hm : i ∈ b) (v : Int) : unbTo b (i + 1) v = unbTo b i v := by
  unfold unbTo
  by_cases c : v = i
  · rw [c, if_pos (by omega), if_neg (by omega), unb_mem hm]
  · by_cases c2 : v < i
    · rw [if_pos (by omega), if_pos c2]
    · rw [if_neg (by omega), if_neg c2]
theorem unbTo_01 (b : List Int) (i v : Int) : 0 ≤ unbTo b i v ∧ unbTo b i v ≤ 1 := by
  unfold unbTo
  split
  · by_cases h : v ∈ b
    · rw [unb_mem h]; omega
    · rw [unb_not h]; omega
  · omega
theorem specRed_l3 {n : Nat} {es : List E} {q : Int} (g : Gr n es q) {d : List Int} (hd : d.length = n) (hb : Bd d 1000) {t u : Int → Int} (h : Sec n es q d t u) (b : List Int) (hbl : b.length ≤ 6) {Q : List Int × List Int → Prop}
    (hk : ∀ s x : List Int, Rep n s (fun w => u w + unb b w - t w) → Rep n x (fun w => rd d w + lap es t w - lap es (fun w => u w + unb b w) w) → Ep (fun k => spec_l05Reduce.l2 k d q s x (n : Int) es) Q) :
    ∀ (dd i : Nat) (s : List Int), i + dd = n → Rep n s (fun w => u w + unbTo b i w - t w) → Ep (fun k => spec_l05Reduce.l3 k d q s b (i : Int) (n : Int) es) Q := by
  have hn := g.n6
  have hbd := h.bds g hd hb
  intro dd
  induction dd with
  | zero =>
    intro i s hi hs
    obtain rfl : i = n := by omega
    have hs' : Rep i s (fun w => u w + unb b w - t w) := hs.congr fun w _ w1 => by unfold unbTo; rw [if_pos w1]
    refine Ep.up ?_
    simp only [spec_l05Reduce.l3]
    refine Ep.neg (by omega) ?_
    refine Ep.bind (specFire i hn es g.hes g.hel d s hd hs'.1 (B := 1000) (K := 20000000) ⟨by omega, by omega⟩ hb (hs.bd fun w w0 w1 => by
      have := hbd.2.2.1 w w0 w1
      have := unbTo_01 b i w
      omega) (by omega)) ?_
    rintro r ⟨hr, _⟩
    refine hk s r hs' (((hr.congr g.hes hs'.2).rep hd).congr fun w w0 w1 => ?_)
    have e : lap es (fun w => u w + unb b w - t w) w = lap es (fun w => u w + unb b w) w - lap es t w := lap_sub es (fun w => u w + unb b w) t w
    rw [e]
    omega
  | succ dd ih =>
    intro i s hi hs
    have hsl := hs.1
    have hsi : rd s (i : Int) = u i + unbTo b i i - t i := hs.2 i (by omega) (by omega)
    have h1 := hbd.2.2.1 i (by omega) (by omega)
    have h2 := unbTo_01 b i i
    refine Ep.up ?_
    simp only [spec_l05Reduce.l3]
    rw [wrap_succ (by omega)]
    refine Ep.pos (by omega) (Ep.bind (specHas b i (by omega)) ?_)
    rintro _ rfl
    refine Ep.ite (fun hm => ?_) (fun hm => Ep.pos (by omega) (Ep.pos (by omega) ?_))
    · have hm' : (i : Int) ∈ b := by simpa using hm
      refine ih (i + 1) s (by omega) (hs.congr fun w _ _ => ?_)
      rw [Int.natCast_succ, unbTo_stay hm']
    · have hm' : (i : Int) ∉ b := by simpa using hm
      rw [hsi, wrap_id (by omega) (by omega)]
      refine ih (i + 1) _ (by omega) ((hs.set (v := (i : Int)) (by omega) (by omega) _).congr fun w _ _ => ?_)
      rw [Int.natCast_succ, unbTo_succ hm']
      unfold one
      by_cases e : w = i
      · rw [if_pos e, if_pos e, e]; omega
      · rw [if_neg e, if_neg e]; omega
theorem specRed_l2 {n : Nat} {es : List E} {q : Int} (g : Gr n es q) {d : List Int} (hd : d.length = n) (hb : Bd d 1000) {t : Int → Int} : ∀ (k : Nat) (u : Int → Int) (s x : List Int), 95040000 < sumN n (fun i => u (i : Int)) + k → Sec n es q d t u → Rep n s (fun w => u w - t w) → Rep n x (fun w => rd d w + lap es t w - lap es u w) →
    Ep (fun f => spec_l05Reduce.l2 f d q s x (n : Int) es) (Reduced n es q d) := by
  have hn := g.n6
  intro k
  induction k with
  | zero =>
    intro u s x hm h _ _
    have := h.bds g hd hb
    omega
  | succ k ih =>
    intro u s x hm h hs hx
    have hxl := hx.1
    have hbo := burnF_ok (es := es) (d := rd x) g.hq
    have hlen := hbo.1.len g.hq
    refine Ep.up ?_
    simp only [spec_l05Reduce.l2]
    refine Ep.bind (specBurn g x hxl) ?_
    rintro b rfl
    generalize burnF n es (rd x) q = b at hbo hlen ⊢
    refine Ep.ite (fun h2 => Ep.now ?_) (fun h2 => ?_)
    · exact h.done g hs hx hbo.1 (by omega)
    · have hex := unburnt_some (n := n) (b := b) (by omega)
      have hst : Sec n es q d t (fun w => u w + unb b w) := ⟨h.ow, h.sets.step g.hes g.hq hx.2 hbo.1 hbo.2⟩
      refine specRed_l3 g hd hb h b (by omega) (fun s' x' hs' hx' => ih (fun w => u w + unb b w) s' x' ?_ hst hs' hx') n 0 s (by omega) (hs.congr fun w w0 _ => ?_)
      · have h9 : sumN n (fun i => u (i : Int)) + 1 ≤ sumN n (fun i => u (i : Int) + unb b (i : Int)) := sum_unb (u := u) hex
        omega
      · unfold unbTo
        rw [if_neg (by omega)]
        omega
theorem specReduce' {n : Nat} {es : List E} {q : Int} (g : Gr n es q) {d : List Int} (hd : d.length = n) (hb : Bd d 1000) : Ep (fun k => spec_l05Reduce.f k (n : Int) es d q) (Reduced n es q d) := by
  have hn := g.n6
  have hz : ∀ w, lap es (fun _ => 0) w = 0 := fun w => lap_const (c := 0) (fun _ _ => ⟨rfl, rfl⟩) w
  simp only [spec_l05Reduce.f]
  refine Ep.pos (by omega) (Ep.pos (by omega) (Ep.bind0 rfl (Ep.pos (by simp; omega) ?_)))
  refine specRed_l0 g hd hb (fun t s x ho hs hx hp => ?_) 218593 (fun _ => 0) _ d ?_ .zero (Rep.zero n) ((Rep.self hd).congr fun w _ _ => by rw [hz]; omega)
  · refine specRed_l2 g hd hb 95040001 (fun _ => 0) s x ?_ ⟨ho, Sets.zero hp⟩ (hs.congr fun w _ _ => by omega) (hx.congr fun w _ _ => by rw [hz]; omega)
    simp only [sumN_zero]; omega
  · simp only [sumN_zero]; omega
theorem specReduce {n : Nat} {es : List E} {q : Int} (g : Gr n es q) {d : List Int} (hd : d.length = n) (hb : Bd d 1000) : Ep (fun k => spec_l05Reduce.f k (n : Int) es d q) (· = reduceS n es q d) := (specReduce' g hd hb).mono fun _ hr => hr.eq g.hes g.hq
theorem reduceS_ok {n : Nat} {es : List E} {q : Int} (g : Gr n es q) {d : List Int} (hd : d.length = n) (hb : Bd d 1000) : Reduced n es q d (reduceS n es q d) := by
  obtain ⟨r, hr, _⟩ := specReduce' g hd hb
  rw [← hr.eq g.hes g.hq]
  exact hr
theorem implRed_l2 {n : Nat} {es : List E} {q : Int} (g : Gr n es q) {d : List Int} (hd : d.length = n) (hb : Bd d 1000) {t u : Int → Int} (h : Sec n es q d t u) (b : List Int) (hbl : b.length ≤ 6) {Q : List Int × List Int → Prop}
    (hk : ∀ s x : List Int, Rep n s (fun w => u w + unb b w - t w) → Rep n x (fun w => rd d w + lap es t w - lap es (fun w => u w + unb b w) w) → Ep (fun k => impl_reduce.l1 k q x s (n : Int) es) Q) :
    ∀ (dd i : Nat) (s x : List Int), i + dd = n → Rep n s (fun w => u w + unbTo b i w - t w) → Rep n x (fun w => rd d w + lap es t w - lap es (fun w => u w + unbTo b i w) w) → Ep (fun k => impl_reduce.l2 k q x s b (n : Int) (i : Int) (n : Int) es) Q := by
  have hn := g.n6
  have hbd := h.bds g hd hb
  intro dd
  induction dd with
  | zero =>
    intro i s x hi hs hx
    obtain rfl : i = n := by omega
    refine Ep.up ?_
    simp only [impl_reduce.l2]
    refine Ep.neg (by omega) (hk s x (hs.congr fun w _ w1 => by unfold unbTo; rw [if_pos w1]) (hx.congr fun w _ _ => ?_))
    rw [lap_congr g.hes (s := fun w => u w + unbTo b i w) (t := fun w => u w + unb b w) (fun v _ v1 => by unfold unbTo; rw [if_pos v1])]
  | succ dd ih =>
    intro i s x hi hs hx
    have hsl := hs.1
    have hxl := hx.1
    have hsi : rd s (i : Int) = u i + unbTo b i i - t i := hs.2 i (by omega) (by omega)
    have h1 := hbd.2.2.1 i (by omega) (by omega)
    have h2 := unbTo_01 b i i
    refine Ep.up ?_
    simp only [impl_reduce.l2]
    rw [wrap_succ (by omega)]
    refine Ep.pos (by omega) (Ep.bind (contains_ok b i (by omega)) ?_)
    rintro _ rfl
    refine Ep.ite (fun hm => ?_) (fun hm => ?_)
    · have hm' : (i : Int) ∈ b := by simpa using hm
      have e : unbTo b ((i : Int) + 1) = unbTo b i := funext fun w => unbTo_stay hm' w
      refine ih (i + 1) s x (by omega) (hs.congr fun w _ _ => ?_) (hx.congr fun w _ _ => ?_)
      · rw [Int.natCast_succ, e]
      · simp only [Int.natCast_succ, e]
    · have hm' : (i : Int) ∉ b := by simpa using hm
      have hbx : Bd x 1000000000 := hx.bd fun w w0 w1 => by
        have h3 := hbd.2.2.2 w w0 w1
        have h4 := lap_bd g.hes g.hel (s := unbTo b i) (L := 0) (S := 1) (by omega) (fun v _ _ => by have := unbTo_01 b i v; omega) w
        rw [lap_add]
        omega
      refine Ep.bind (implFire n es g.hes g.hel x i 1 hxl ⟨by omega, by omega⟩ (B := 1000000000) (K := 1) ⟨by omega, by omega⟩ hbx (by omega) (by omega)) ?_
      rintro r ⟨hr, _⟩
      refine Ep.pos (by omega) (Ep.pos (by omega) ?_)
      rw [hsi, wrap_id (by omega) (by omega)]
      refine ih (i + 1) _ r (by omega) ((hs.set (v := (i : Int)) (by omega) (by omega) _).congr fun w _ _ => ?_) ((hr.rep hxl).congr fun w w0 w1 => ?_)
      · rw [Int.natCast_succ, unbTo_succ hm']
        unfold one
        by_cases e : w = i
        · rw [if_pos e, if_pos e, e]; omega
        · rw [if_neg e, if_neg e]; omega
      · have hxw : rd x w = rd d w + lap es t w - lap es (fun w => u w + unbTo b i w) w := hx.2 w w0 w1
        have e : (fun w => u w + unbTo b ((i + 1 : Nat) : Int) w) = fun w => (fun w => u w + unbTo b i w) w + one (i : Int) 1 w := by
          funext w
          show u w + unbTo b ((i + 1 : Nat) : Int) w = u w + unbTo b i w + one (i : Int) 1 w
          rw [Int.natCast_succ, unbTo_succ hm']
          omega
        rw [e, lap_add, hxw]
        omega
theorem implRed_l1 {n : Nat} {es : List E} {q : Int} (g : Gr n es q) {d : List Int} (hd : d.length = n) (hb : Bd d 1000) {t : Int → Int} : ∀ (k : Nat) (u : Int → Int) (s x : List Int), 95040000 < sumN n (fun i => u (i : Int)) + k → Sec n es q d t u → Rep n s (fun w => u w - t w) → Rep n x (fun w => rd d w + lap es t w - lap es u w) →
    Ep (fun f => impl_reduce.l1 f q x s (n : Int) es) (Reduced n es q d) := by
  have hn := g.n6
  intro k
  induction k with
  | zero =>
    intro u s x hm h _ _
    have := h.bds g hd hb
    omega
  | succ k ih =>
    intro u s x hm h hs hx
    have hxl := hx.1
    have hsl := hs.1
    have hbo := burnF_ok (es := es) (d := rd x) g.hq
    have hlen := hbo.1.len g.hq
    refine Ep.up ?_
    simp only [impl_reduce.l1]
    refine Ep.bind (implBurn g x hxl) ?_
    rintro b rfl
    generalize burnF n es (rd x) q = b at hbo hlen ⊢
    refine Ep.ite (fun h2 => Ep.now ?_) (fun h2 => ?_)
    · exact h.done g hs hx hbo.1 (by omega)
    · have hex := unburnt_some (n := n) (b := b) (by omega)
      have hst : Sec n es q d t (fun w => u w + unb b w) := ⟨h.ow, h.sets.step g.hes g.hq hx.2 hbo.1 hbo.2⟩
      have e : ∀ w : Int, 0 ≤ w → u w + unbTo b ((0 : Nat) : Int) w = u w := fun w w0 => by unfold unbTo; rw [if_neg (by omega)]; omega
      rw [hsl]
      refine implRed_l2 g hd hb h b (by omega) (fun s' x' hs' hx' => ih (fun w => u w + unb b w) s' x' ?_ hst hs' hx') n 0 s x (by omega) (hs.congr fun w w0 _ => ?_) (hx.congr fun w w0 w1 => ?_)
      · have h9 : sumN n (fun i => u (i : Int)) + 1 ≤ sumN n (fun i => u (i : Int) + unb b (i : Int)) := sum_unb (u := u) hex
        omega
      · rw [e w w0]
      · rw [lap_congr g.hes (s := u) (t := fun w => u w + unbTo b ((0 : Nat) : Int) w) (fun v v0 _ => (e v v0).symm)]
theorem implRed_l0 {n : Nat} {es : List E} {q : Int} (g : Gr n es q) {d : List Int} (hd : d.length = n) (hb : Bd d 1000) : ∀ (k : Nat) (t : Int → Int) (s x : List Int), 218592 < sumN n (fun i => t (i : Int)) + k → Owed n es q d t → Rep n s (fun w => - t w) → Rep n x (fun w => rd d w + lap es t w) →
    Ep (fun f => impl_reduce.l0 f q x s (debtF q x x.length 0) (n : Int) es) (Reduced n es q d) := by
  have hn := g.n6
  have hel := g.hel
  have hz : ∀ w, lap es (fun _ => 0) w = 0 := fun w => lap_const (c := 0) (fun _ _ => ⟨rfl, rfl⟩) w
  intro k
  induction k with
  | zero =>
    intro t s x hm ho _ _
    have := ho.bds g hd hb
    omega
  | succ k ih =>
    intro t s x hm ho hs hx
    have hxl := hx.1
    have hsl := hs.1
    have hbd := ho.bds g hd hb
    refine Ep.up ?_
    simp only [impl_reduce.l0]
    refine Ep.ite (fun h => ?_) (fun h => ?_)
    · have hp := debt_pos (q := q) hxl (by omega)
      generalize debtF q x x.length 0 = v at hp ⊢
      obtain ⟨h0, h1, h2, h3⟩ := hp
      have hvp := val_pos g.hj g.hq ⟨h0, h1⟩ h2
      have hvl := val_le es v
      have hxv : rd x v = rd d v + lap es t v := hx.2 v h0 h1
      have hsv : rd s v = - t v := hs.2 v h0 h1
      have hxb := hbd.2.2.2 v h0 h1
      have htv := hbd.1 v h0 h1
      have hdv := Int.ediv_mul_le (val es v - 1 - rd x v) (b := val es v) (by omega)
      have hd0 : 1 ≤ (val es v - 1 - rd x v) / val es v := (Int.le_ediv_iff_mul_le hvp).2 (by omega)
      have hdm : (val es v - 1 - rd x v) / val es v ≤ val es v - 1 - rd x v := Int.ediv_le_self _ (by omega)
      have htd : Int.tdiv (val es v - 1 - rd x v) (val es v) = (val es v - 1 - rd x v) / val es v := Int.tdiv_eq_ediv_of_nonneg (by omega)
      have hbx : Bd x 1000000 := hx.bd fun w w0 w1 => by
        have := hbd.2.2.2 w w0 w1
        omega
      refine Ep.bind (implValence n es v (by omega)) ?_
      rintro _ rfl
      rw [valG_in ⟨h0, h1⟩]
      refine Ep.pos (by omega) (Ep.pos (by omega) (Ep.neg (by omega) ?_))
      rw [wrap_id (x := val es v - 1) (by omega) (by omega), wrap_id (x := val es v - 1 - rd x v) (by omega) (by omega), htd, wrap_id (x := (val es v - 1 - rd x v) / val es v) (by omega) (by omega)]
      generalize (val es v - 1 - rd x v) / val es v = m at hdv hd0 hdm ⊢
      obtain ⟨m, rfl⟩ := Int.eq_ofNat_of_zero_le (a := m) (by omega)
      rw [wrap_id (x := -(m : Int)) (by omega) (by omega)]
      refine Ep.bind (implFire n es g.hes g.hel x v (-(m : Int)) hxl ⟨h0, h1⟩ (B := 1000000) (K := 1000000) ⟨by omega, by omega⟩ hbx (by omega) (by omega)) ?_
      rintro r ⟨hr, _⟩
      have hr' := hr.rep hxl
      have hrl := hr'.1
      have ho' : Owed n es q d (fun w => t w + one v m w) := Legal.many g.hes ho h0 h1 h2 m (by unfold dual; omega)
      refine Ep.pos (by omega) ?_
      refine Ep.bind (implDebt r q (by omega)) ?_
      rintro _ rfl
      rw [hsv, wrap_id (x := - t v - (m : Int)) (by omega) (by omega)]
      refine ih (fun w => t w + one v m w) _ r ?_ ho' ((hs.set h0 h1 _).congr fun w _ _ => ?_) (hr'.congr fun w w0 w1 => ?_)
      · rw [sum_grow h0 h1]
        omega
      · unfold one
        by_cases e : w = v
        · rw [if_pos e, if_pos e, e]; omega
        · rw [if_neg e, if_neg e]; omega
      · have h5 : rd x w = rd d w + lap es t w := hx.2 w w0 w1
        have e : one v (-(m : Int)) = fun w => - one v m w := by
          funext w
          unfold one
          split <;> omega
        rw [h5, lap_add, e, lap_neg]
        omega
    · have hp := debt_neg (q := q) hxl (by omega)
      refine implRed_l1 g hd hb 95040001 (fun _ => 0) s x ?_ ⟨ho, Sets.zero fun v v0 v1 v2 => ?_⟩ (hs.congr fun w _ _ => by omega) (hx.congr fun w _ _ => by rw [hz]; omega)
      · simp only [sumN_zero]; omega
      · have h3 := hp v v0 v1 v2
        have h4 : rd x v = rd d v + lap es t v := hx.2 v v0 v1
        omega
theorem implReduce {n : Nat} {es : List E} {q : Int} (g : Gr n es q) {d : List Int} (hd : d.length = n) (hb : Bd d 1000) : Ep (fun k => impl_reduce.f k (n : Int) es d q) (· = reduceS n es q d) := by
  have hn := g.n6
  have hz : ∀ w, lap es (fun _ => 0) w = 0 := fun w => lap_const (c := 0) (fun _ _ => ⟨rfl, rfl⟩) w
  simp only [impl_reduce.f]
  refine Ep.bind0 (copy_eq d (by omega)) (Ep.pos (by omega) (Ep.pos (by omega) ?_))
  refine Ep.bind (implDebt d q (by omega)) ?_
  rintro _ rfl
  refine (implRed_l0 g hd hb 218593 (fun _ => 0) _ d ?_ .zero (Rep.zero n) ((Rep.self hd).congr fun w _ _ => by rw [hz]; omega)).mono fun r hr => hr.eq g.hes g.hq
  simp only [sumN_zero]; omega
end Go.Proofs.Ytgobnfeahffnaab.Cf
end

section
namespace Go.Proofs.Ytgobnfeahffnaab.P
open Go.RowKit Go.Proofs.YtgobnfeahffnaabW.PrintWords Go.Proofs.YtgobnfeahffnaabW.PrintLast Go.Proofs.YtgobnfeahffnaabW.PrintMore
attribute [local go_sem] max2_int min2_int max_two min_two max_three min_three max_four min_four
set_option linter.unusedVariables false
set_option linter.unusedSimpArgs false
def impl_sumOf.l0 : Nat → Int → List Int → Int → Int → Option (Int)
 | 0, _, _, _, _ => none
 | k + 1, x3, x6, x7, x8 => if x8 < x7 then (if 0 ≤ x8 then (if x8 < (x6.length : Int) then (impl_sumOf.l0 k (wrap64 (x3 + (rd x6 x8))) x6 x7 (wrap64 (x8 + 1))) else (none)) else (none)) else (some x3)
def impl_sumOf.f (k : Nat) (l0 : List Int) : Option (Int) := impl_sumOf.l0 k 0 l0 (l0.length : Int) 0
theorem impl_sumOf.mono_l : ∀ k, (∀ y0 y1 y2 y3, LeO (impl_sumOf.l0 k y0 y1 y2 y3) (impl_sumOf.l0 (k + 1) y0 y1 y2 y3))
 | 0 => fun _ _ _ _ r h => by simp [impl_sumOf.l0] at h
 | k + 1 => by
  have ih0 := impl_sumOf.mono_l k
  ·intro y0 y1 y2 y3
   unfold impl_sumOf.l0
   exact zm0
theorem impl_sumOf.mono : ∀ a0 k, LeO (impl_sumOf.f k a0) (impl_sumOf.f (k + 1) a0) := by
 intro a0 k; have ih0 := impl_sumOf.mono_l k; unfold impl_sumOf.f; exact zm0
def spec_DegreeOf.l0 : Nat → Int → List Int → Int → Int → Option (Int)
 | 0, _, _, _, _ => none
 | k + 1, x3, x6, x7, x8 => if x8 < x7 then (if 0 ≤ x8 then (if x8 < (x6.length : Int) then (spec_DegreeOf.l0 k (wrap64 (x3 + (rd x6 x8))) x6 x7 (wrap64 (x8 + 1))) else (none)) else (none)) else (some x3)
def spec_DegreeOf.f (k : Nat) (l0 : List Int) : Option (Int) := spec_DegreeOf.l0 k 0 l0 (l0.length : Int) 0
theorem spec_DegreeOf.mono_l : ∀ k, (∀ y0 y1 y2 y3, LeO (spec_DegreeOf.l0 k y0 y1 y2 y3) (spec_DegreeOf.l0 (k + 1) y0 y1 y2 y3))
 | 0 => fun _ _ _ _ r h => by simp [spec_DegreeOf.l0] at h
 | k + 1 => by
  have ih0 := spec_DegreeOf.mono_l k
  ·intro y0 y1 y2 y3
   unfold spec_DegreeOf.l0
   exact zm0
theorem spec_DegreeOf.mono : ∀ a0 k, LeO (spec_DegreeOf.f k a0) (spec_DegreeOf.f (k + 1) a0) := by
 intro a0 k; have ih0 := spec_DegreeOf.mono_l k; unfold spec_DegreeOf.f; exact zm0
end Go.Proofs.Ytgobnfeahffnaab.P
end

section
namespace Go.Proofs.Ytgobnfeahffnaab.Cf
set_option linter.unusedVariables false
set_option linter.unusedSimpArgs false
open Go.RowKit Go.Proofs.YtgobnfeahffnaabW.PrintWords Go.Proofs.Ytgobnfeahffnaab.P
/-- The numbers are no greater than a thousand million. -/
def Mod (l : List Int) : Prop := ∀ x ∈ l, -1000000000 ≤ x ∧ x ≤ 1000000000
end Go.Proofs.Ytgobnfeahffnaab.Cf
end

section
namespace Go.Proofs.Ytgobnfeahffnaab.Cf
set_option linter.unusedVariables false
set_option linter.unusedSimpArgs false
open Go.RowKit Go.Proofs.YtgobnfeahffnaabW.PrintWords
theorem sum_bd {n : Nat} (hn : n ≤ 6) {d : List Int} (hd : d.length = n) {B : Int} (hB : 0 ≤ B) (hb : Bd d B) : -(6 * B) ≤ d.sum ∧ d.sum ≤ 6 * B := by
  rw [sum_rd n d hd]
  have h1 := sumN_le_const (n := n) (f := fun i => rd d (i : Int)) (c := B) (fun i hi => (hb i (by omega) (by omega)).2)
  have h2 := sumN_le_const (n := n) (f := fun i => - rd d (i : Int)) (c := B) (fun i hi => by have := (hb i (by omega) (by omega)).1; omega)
  have h3 : sumN n (fun i => - rd d (i : Int)) + sumN n (fun i => rd d (i : Int)) = 0 := by
    rw [← sumN_add]
    have := sumN_zero n
    rw [← this]
    apply sumN_congr
    intro i _
    omega
  have h4 : (n : Int) * B ≤ 6 * B := Int.mul_le_mul_of_nonneg_right (by omega) hB
  omega
theorem reduceS_bd {n : Nat} {es : List E} {q : Int} (g : Gr n es q) {d : List Int} (hd : d.length = n) (hb : Bd d 1000) : (reduceS n es q d).1.length = n ∧ Bd (reduceS n es q d).1 10000 := by
  have h := reduceS_ok g hd hb
  have h1 := (h.bd g.n6 g.hes g.hel g.hq hd).2
  have h2 := sum_bd g.n6 hd (by omega) hb
  refine ⟨h.1, fun w w0 w1 => ?_⟩
  have h3 := h1 w w0 (by have := h.1; omega)
  by_cases e : w = q
  · have := h3.2 e; omega
  · have := h3.1 e; omega
end Go.Proofs.Ytgobnfeahffnaab.Cf
end

section
namespace Go.Proofs.Ytgobnfeahffnaab.Cf
set_option linter.unusedVariables false
set_option linter.unusedSimpArgs false
open Go.RowKit Go.Proofs.YtgobnfeahffnaabW.PrintWords Go.Proofs.Ytgobnfeahffnaab.P
theorem pOk_pre {n : Int} {es : List E} {p : List Int} {q : Int} (h : pOk n es p q = true) : ∃ m : Nat, n = m ∧ Gr m es q ∧ Pre m q p := by
  obtain ⟨⟨h1, h2, h3⟩, h4, h5, h6⟩ := pOk_iff.1 h
  obtain ⟨m, rfl⟩ := Int.eq_ofNat_of_zero_le (a := n) (by omega)
  have hl : p.length = m := by omega
  refine ⟨m, rfl, Gr.of h1 h4, ⟨hl, fun v v0 v1 _ => ?_, h6⟩⟩
  obtain ⟨i, rfl⟩ := Int.eq_ofNat_of_zero_le v0
  have hi : i < p.length := by omega
  have := h3 _ (List.getElem_mem hi)
  have := h5 _ (List.getElem_mem hi)
  rw [rd_get hi]
  omega
/-- The valence minus 1, 0 at q. -/
def fullAt (n : Int) (es : List E) (q : Int) (i : Nat) : Int := if (i : Int) = q then 0 else valG n es i - 1
def fullL (n : Int) (es : List E) (q : Int) : List Int := (List.range n.toNat).map (fullAt n es q)
/-- FullPile. -/
def fullP (n : Int) (es : List E) (q : Int) : List Int := if gOk n es = true ∧ 0 ≤ q ∧ q < n then fullL n es q else []
theorem fullP_len6 (n : Int) (es : List E) (q : Int) : (fullP n es q).length ≤ 6 := by
  unfold fullP
  split
  · rename_i h
    have := (gOk_iff.1 h.1).1.2.1
    simp [fullL]
    omega
  · simp
theorem valG_bd {n : Int} {es : List E} {v : Int} : 0 ≤ valG n es v ∧ valG n es v ≤ es.length := by
  unfold valG
  split
  · exact ⟨val_nonneg es v, val_le es v⟩
  · omega
theorem map_take_succ {α : Type} (f : Nat → α) (n i : Nat) (h : i < n) : ((List.range n).map f).take (i + 1) = ((List.range n).map f).take i ++ [f i] := by
  rw [List.take_succ_eq_append_getElem (by simpa using h)]
  simp
theorem specFull_l0 (n : Nat) (es : List E) (q : Int) (hn : n ≤ 6) (hel : es.length ≤ 12) : ∀ (d i : Nat), i + d = n → Ep (fun k => spec_FullPile.l0 k q ((fullL n es q).take i) (i : Int) (n : Int) es) (· = fullL n es q) := by
  intro d
  have hL : (fullL n es q).length = n := by simp [fullL]
  induction d with
  | zero =>
    intro i hi
    refine Ep.up ?_
    simp only [spec_FullPile.l0]
    refine Ep.neg (by omega) (Ep.now ?_)
    rw [List.take_of_length_le (by omega)]
  | succ d ih =>
    intro i hi
    have ht : (fullL n es q).take (i + 1) = (fullL n es q).take i ++ [fullAt n es q i] := by
      unfold fullL
      rw [Int.toNat_natCast]
      exact map_take_succ _ n i (by omega)
    have hlen : ((fullL n es q).take i).length < 17592186044416 := by rw [List.length_take]; omega
    have ih' := ih (i + 1) (by omega)
    rw [ht] at ih'
    refine Ep.up ?_
    simp only [spec_FullPile.l0]
    rw [wrap_succ (by omega)]
    refine Ep.pos (by omega) (Ep.ite (fun h => Ep.pos hlen ?_) (fun h => ?_))
    · unfold fullAt at ih'
      rw [if_pos h] at ih'
      exact ih'
    · refine Ep.bind (specValence n es i (by omega)) ?_
      rintro _ rfl
      have := valG_bd (n := n) (es := es) (v := i)
      rw [wrap_id (by omega) (by omega)]
      unfold fullAt at ih'
      rw [if_neg h] at ih'
      exact Ep.pos hlen ih'
theorem specFull (n : Int) (es : List E) (q : Int) : Ep (fun k => spec_FullPile.f k n es q) (· = fullP n es q) := by
  simp only [spec_FullPile.f]
  refine Ep.bind (specGraph n es) ?_
  rintro _ rfl
  refine Ep.ite (fun hg => ?_) (fun hg => ?_)
  · have hG1 := (gOk_true hg).1
    unfold EsOk at hG1
    rw [wrap_id (x := n - 1) (by omega) (by omega)]
    refine Ep.bind0 (l01In_eq _ _ _) ?_
    refine Ep.up ?_
    simp only [spec_FullPile.j0]
    refine Ep.ite (fun h => Ep.now ?_) (fun h => ?_)
    · have h' : ¬ (0 ≤ q ∧ q ≤ n - 1) := by
        intro x
        simp [x] at h
      unfold fullP
      rw [if_neg (fun x => h' (by omega))]
    · have h' : 0 ≤ q ∧ q ≤ n - 1 := by simpa using h
      unfold fullP
      rw [if_pos ⟨hg, by omega, by omega⟩]
      obtain ⟨m, rfl⟩ := Int.eq_ofNat_of_zero_le (a := n) (by omega)
      exact specFull_l0 m es q (by omega) hG1.2.2.1 m 0 (by omega)
  · refine Ep.up ?_
    simp only [spec_FullPile.j0]
    refine Ep.pos trivial (Ep.now ?_)
    unfold fullP
    rw [if_neg (fun x => hg x.1)]
theorem implFull_l0 (n : Nat) (es : List E) (q : Int) (hn : n ≤ 6) (hel : es.length ≤ 12) : ∀ (d i : Nat) (x : List Int), i + d = n → x.length = n → (∀ j, j < i → x[j]? = (fullL n es q)[j]?) → (∀ j, i ≤ j → j < n → x[j]? = some 0) → Ep (fun k => impl_FullPile.l0 k q x (n : Int) (i : Int) (n : Int) es) (· = fullL n es q) := by
  intro d
  have hL : (fullL n es q).length = n := by simp [fullL]
  have hget : ∀ j, j < n → (fullL n es q)[j]? = some (fullAt n es q j) := fun j hj => by simp [fullL, hj]
  induction d with
  | zero =>
    intro i x hi hx hd _
    refine Ep.up ?_
    simp only [impl_FullPile.l0]
    refine Ep.neg (by omega) (Ep.now ?_)
    apply List.ext_getElem?
    intro j
    by_cases hj : j < i
    · exact hd j hj
    · rw [List.getElem?_eq_none (by omega), List.getElem?_eq_none (by omega)]
  | succ d ih =>
    intro i x hi hx hd hz
    refine Ep.up ?_
    simp only [impl_FullPile.l0]
    rw [wrap_succ (by omega)]
    refine Ep.pos (by omega) (Ep.ite (fun h => ?_) (fun h => ?_))
    · refine ih (i + 1) x (by omega) hx ?_ (fun j hj => hz j (by omega))
      intro j hj
      by_cases e : j = i
      · subst e
        rw [hz j (Nat.le_refl _) (by omega), hget j (by omega)]
        unfold fullAt
        rw [if_pos h]
      · exact hd j (by omega)
    · refine Ep.bind (implValence n es i (by omega)) ?_
      rintro _ rfl
      have := valG_bd (n := n) (es := es) (v := i)
      rw [wrap_id (x := valG (n : Int) es i - 1) (by omega) (by omega), Int.toNat_natCast]
      refine Ep.pos (by omega) (Ep.pos (by omega) (ih (i + 1) _ (by omega) (by simpa using hx) ?_ ?_))
      · intro j hj
        by_cases e : i = j
        · subst e
          rw [List.getElem?_set_self (by omega), hget i (by omega)]
          unfold fullAt
          rw [if_neg h]
        · rw [List.getElem?_set_ne e]
          exact hd j (by omega)
      · intro j hj hjn
        rw [List.getElem?_set_ne (by omega)]
        exact hz j (by omega) hjn
theorem implFull (n : Int) (es : List E) (q : Int) (hn : Wf .i64 n) : Ep (fun k => impl_FullPile.f k n es q) (· = fullP n es q) := by
  simp only [impl_FullPile.f]
  refine Ep.bind0 (isVertex_eq n es q hn) ?_
  refine Ep.ite (fun h => ?_) (fun h => Ep.now ?_)
  · have h' : gOk n es = true ∧ 0 ≤ q ∧ q < n := by simpa using h
    have hG1 := (gOk_true h'.1).1
    unfold EsOk at hG1
    unfold fullP
    rw [if_pos h']
    obtain ⟨m, rfl⟩ := Int.eq_ofNat_of_zero_le (a := n) (by omega)
    refine Ep.pos (by omega) (Ep.pos (by simp; omega) (Ep.bind0 rfl ?_))
    have := implFull_l0 m es q (by omega) hG1.2.2.1 m 0 (List.replicate m 0) (by omega) (by simp) (fun j hj => by omega) (fun j _ hj => by simp [hj])
    simpa using this
  · unfold fullP
    rw [if_neg (fun x => h (by rw [x.1]; simpa using x.2))]
end Go.Proofs.Ytgobnfeahffnaab.Cf
end

section
namespace Go.Proofs.Ytgobnfeahffnaab.P
open Go.RowKit Go.Proofs.YtgobnfeahffnaabW.PrintWords Go.Proofs.YtgobnfeahffnaabW.PrintLast Go.Proofs.YtgobnfeahffnaabW.PrintMore
attribute [local go_sem] max2_int min2_int max_two min_two max_three min_three max_four min_four
set_option linter.unusedVariables false
set_option linter.unusedSimpArgs false
def spec_AddDivisors.l0 : Nat → List Int → List Int → List Int → Int → Int → Option (List Int × Bool)
 | 0, _, _, _, _, _ => none
 | k + 1, x1, x6, x15, x16, x17 => if x17 < x16 then (if 0 ≤ x17 then (if x17 < (x15.length : Int) then (if x17 < (x1.length : Int) then (if x6.length < 17592186044416 then (spec_AddDivisors.l0 k x1 (x6 ++ [wrap64 ((rd x15 x17) + (rd x1 x17))]) x15 x16 (wrap64 (x17 + 1))) else (none)) else (none)) else (none)) else (none)) else (some (x6, true))
def spec_AddDivisors.f (k : Nat) (l0 : List Int) (l1 : List Int) : Option (List Int × Bool) := if (l0.length : Int) = (l1.length : Int) then (spec_AddDivisors.l0 k l1 (([] : List Int)) l0 (l0.length : Int) 0) else (some (([] : List Int), false))
theorem spec_AddDivisors.mono_l : ∀ k, (∀ y0 y1 y2 y3 y4, LeO (spec_AddDivisors.l0 k y0 y1 y2 y3 y4) (spec_AddDivisors.l0 (k + 1) y0 y1 y2 y3 y4))
 | 0 => fun _ _ _ _ _ r h => by simp [spec_AddDivisors.l0] at h
 | k + 1 => by
  have ih0 := spec_AddDivisors.mono_l k
  ·intro y0 y1 y2 y3 y4
   unfold spec_AddDivisors.l0
   exact zm0
theorem spec_AddDivisors.mono : ∀ a0 a1 k, LeO (spec_AddDivisors.f k a0 a1) (spec_AddDivisors.f (k + 1) a0 a1) := by
 intro a0 a1 k; have ih0 := spec_AddDivisors.mono_l k; unfold spec_AddDivisors.f; exact zm0
end Go.Proofs.Ytgobnfeahffnaab.P
end

section
namespace Go.Proofs.Ytgobnfeahffnaab.Cf
set_option linter.unusedVariables false
set_option linter.unusedSimpArgs false
open Go.RowKit Go.Proofs.YtgobnfeahffnaabW.PrintWords Go.Proofs.Ytgobnfeahffnaab.P
theorem repL_take {n i : Nat} (f : Int → Int) (h : i < n) : (repL n f).take (i + 1) = (repL n f).take i ++ [f (i : Int)] := by
  unfold repL
  exact map_take_succ (fun j : Nat => f (j : Int)) n i h
theorem repL_congr {n : Nat} {f g : Int → Int} (h : ∀ w : Int, 0 ≤ w → w < n → f w = g w) : repL n f = repL n g := ((repL_rep n f).congr h).eq
def plusL (a b : List Int) : List Int := repL a.length fun w => rd a w + rd b w
def minL (a b : List Int) : List Int := repL a.length fun w => rd a w - rd b w
def negL (a : List Int) : List Int := repL a.length fun w => - rd a w
theorem plus_neg {a b : List Int} (h : a.length = b.length) : plusL a (negL b) = minL a b := by
  unfold plusL minL
  refine repL_congr fun w h0 h1 => ?_
  have : rd (negL b) w = - rd b w := (repL_rep b.length _).2 w h0 (by omega)
  rw [this]
  omega
theorem implPlus_l0 (a b : List Int) (n : Nat) (hn : n ≤ 1048576) (ha : a.length = n) (hb : b.length = n) (ba : Bd a 1000000000) (bb : Bd b 1000000000) : ∀ (d i : Nat) (x : List Int), i + d = n → Rep n x (fun w => if w < i then rd a w + rd b w else rd a w) → Ep (fun k => impl_plus.l0 k b x (n : Int) (i : Int)) (· = plusL a b) := by
  intro d
  induction d with
  | zero =>
    intro i x hi hx
    obtain rfl : i = n := by omega
    refine Ep.up ?_
    simp only [impl_plus.l0]
    refine Ep.neg (by omega) (Ep.now ?_)
    unfold plusL
    rw [ha]
    exact (hx.congr fun w _ w1 => by rw [if_pos w1]).eq
  | succ d ih =>
    intro i x hi hx
    have hxl := hx.1
    have h1 := ba i (by omega) (by omega)
    have h2 := bb i (by omega) (by omega)
    have hxi : rd x (i : Int) = rd a (i : Int) := by
      have h9 := hx.2 i (by omega) (by omega)
      simp only [if_neg (show ¬ (i : Int) < i by omega)] at h9
      exact h9
    refine Ep.up ?_
    simp only [impl_plus.l0]
    refine Ep.pos (by omega) (Ep.pos (by omega) (Ep.pos (by omega) (Ep.pos (by omega) ?_)))
    rw [wrap_succ (by omega), hxi, wrap_id (by omega) (by omega)]
    refine ih (i + 1) _ (by omega) ((hx.set (v := (i : Int)) (by omega) (by omega) _).congr fun w _ _ => ?_)
    by_cases e : w = i
    · rw [if_pos e, if_pos (by omega), e]
    · rw [if_neg e]
      by_cases e2 : w < i
      · rw [if_pos e2, if_pos (by omega)]
      · rw [if_neg e2, if_neg (by omega)]
theorem implPlus (a b : List Int) (hl : a.length ≤ 1048576) (hab : a.length = b.length) (ba : Bd a 1000000000) (bb : Bd b 1000000000) : Ep (fun k => impl_plus.f k a b) (· = plusL a b) := by
  simp only [impl_plus.f]
  refine Ep.bind0 (copy_eq a hl) ?_
  exact implPlus_l0 a b a.length hl rfl hab.symm ba bb a.length 0 a (by omega) ((Rep.self rfl).congr fun w w0 _ => by rw [if_neg (by omega)])
theorem specMinus_l0 (a b : List Int) (n : Nat) (hn : n ≤ 1048576) (ha : a.length = n) (hb : b.length = n) (ba : Bd a 1000000000) (bb : Bd b 1000000000) : ∀ (d i : Nat), i + d = n → Ep (fun k => spec_l07Minus.l0 k b ((minL a b).take i) a (n : Int) (i : Int)) (· = minL a b) := by
  intro d
  have hL : (minL a b).length = n := by simp [minL, repL_len, ha]
  induction d with
  | zero =>
    intro i hi
    refine Ep.up ?_
    simp only [spec_l07Minus.l0]
    refine Ep.neg (by omega) (Ep.now ?_)
    rw [List.take_of_length_le (by omega)]
  | succ d ih =>
    intro i hi
    have h1 := ba i (by omega) (by omega)
    have h2 := bb i (by omega) (by omega)
    have hlen : ((minL a b).take i).length < 17592186044416 := by rw [List.length_take]; omega
    have ih' := ih (i + 1) (by omega)
    have ht : (minL a b).take (i + 1) = (minL a b).take i ++ [rd a (i : Int) - rd b (i : Int)] := repL_take _ (by omega)
    rw [ht] at ih'
    refine Ep.up ?_
    simp only [spec_l07Minus.l0]
    rw [wrap_succ (by omega), wrap_id (x := rd a (i : Int) - rd b (i : Int)) (by omega) (by omega)]
    exact Ep.pos (by omega) (Ep.pos (by omega) (Ep.pos (by omega) (Ep.pos (by omega) (Ep.pos hlen ih'))))
theorem specMinus (a b : List Int) (hl : a.length ≤ 1048576) (hab : a.length = b.length) (ba : Bd a 1000000000) (bb : Bd b 1000000000) : Ep (fun k => spec_l07Minus.f k a b) (· = minL a b) := by
  simp only [spec_l07Minus.f]
  have := specMinus_l0 a b a.length hl rfl hab.symm ba bb a.length 0 (by omega)
  simpa using this
theorem specNeg_l0 (a : List Int) (n : Nat) (hn : n ≤ 1048576) (ha : a.length = n) (ba : Bd a 1000000000) : ∀ (d i : Nat), i + d = n → Ep (fun k => spec_NegateDivisor.l0 k ((negL a).take i) a (n : Int) (i : Int)) (· = negL a) := by
  intro d
  have hL : (negL a).length = n := by simp [negL, repL_len, ha]
  induction d with
  | zero =>
    intro i hi
    refine Ep.up ?_
    simp only [spec_NegateDivisor.l0]
    refine Ep.neg (by omega) (Ep.now ?_)
    rw [List.take_of_length_le (by omega)]
  | succ d ih =>
    intro i hi
    have h1 := ba i (by omega) (by omega)
    have hlen : ((negL a).take i).length < 17592186044416 := by rw [List.length_take]; omega
    have ih' := ih (i + 1) (by omega)
    have ht : (negL a).take (i + 1) = (negL a).take i ++ [- rd a (i : Int)] := repL_take _ (by omega)
    rw [ht] at ih'
    refine Ep.up ?_
    simp only [spec_NegateDivisor.l0]
    rw [wrap_succ (by omega), wrap_id (x := - rd a (i : Int)) (by omega) (by omega)]
    exact Ep.pos (by omega) (Ep.pos (by omega) (Ep.pos (by omega) (Ep.pos hlen ih')))
theorem specNeg (a : List Int) (hl : a.length ≤ 1048576) (ba : Bd a 1000000000) : Ep (fun k => spec_NegateDivisor.f k a) (· = negL a) := by
  simp only [spec_NegateDivisor.f]
  have := specNeg_l0 a a.length hl rfl ba a.length 0 (by omega)
  simpa using this
theorem implNeg_l0 (a : List Int) (n : Nat) (hn : n ≤ 1048576) (ha : a.length = n) (ba : Bd a 1000000000) : ∀ (d i : Nat) (x : List Int), i + d = n → Rep n x (fun w => if w < i then - rd a w else rd a w) → Ep (fun k => impl_NegateDivisor.l0 k x (n : Int) (i : Int)) (· = negL a) := by
  intro d
  induction d with
  | zero =>
    intro i x hi hx
    obtain rfl : i = n := by omega
    refine Ep.up ?_
    simp only [impl_NegateDivisor.l0]
    refine Ep.neg (by omega) (Ep.now ?_)
    unfold negL
    rw [ha]
    exact (hx.congr fun w _ w1 => by rw [if_pos w1]).eq
  | succ d ih =>
    intro i x hi hx
    have hxl := hx.1
    have h1 := ba i (by omega) (by omega)
    have hxi : rd x (i : Int) = rd a (i : Int) := by
      have h9 := hx.2 i (by omega) (by omega)
      simp only [if_neg (show ¬ (i : Int) < i by omega)] at h9
      exact h9
    refine Ep.up ?_
    simp only [impl_NegateDivisor.l0]
    refine Ep.pos (by omega) (Ep.pos (by omega) (Ep.pos (by omega) ?_))
    rw [wrap_succ (by omega), hxi, wrap_id (by omega) (by omega)]
    refine ih (i + 1) _ (by omega) ((hx.set (v := (i : Int)) (by omega) (by omega) _).congr fun w _ _ => ?_)
    by_cases e : w = i
    · rw [if_pos e, if_pos (by omega), e]
    · rw [if_neg e]
      by_cases e2 : w < i
      · rw [if_pos e2, if_pos (by omega)]
      · rw [if_neg e2, if_neg (by omega)]
theorem implNeg (a : List Int) (hl : a.length ≤ 1048576) (ba : Bd a 1000000000) : Ep (fun k => impl_NegateDivisor.f k a) (· = negL a) := by
  simp only [impl_NegateDivisor.f]
  refine Ep.bind0 (copy_eq a hl) ?_
  exact implNeg_l0 a a.length hl rfl ba a.length 0 a (by omega) ((Rep.self rfl).congr fun w w0 _ => by rw [if_neg (by omega)])
theorem negL_len (a : List Int) : (negL a).length = a.length := by simp [negL, repL_len]
theorem minL_len (a b : List Int) : (minL a b).length = a.length := by simp [minL, repL_len]
theorem negL_bd {a : List Int} {B : Int} (h : Bd a B) : Bd (negL a) B := (repL_rep a.length _).bd fun w h0 h1 => by have := h w h0 h1; omega
theorem minL_bd {a b : List Int} {A B : Int} (hab : a.length = b.length) (ha : Bd a A) (hb : Bd b B) : Bd (minL a b) (A + B) := (repL_rep a.length _).bd fun w h0 h1 => by have := ha w h0 h1; have := hb w h0 (by omega); omega
theorem equal_l0 (x0 x1 : List Int) (h : x0.length ≤ 1048576) (hl : x0.length = x1.length) : ∀ (d i : Nat), i + d = x0.length → (∀ j, j < i → x0[j]? = x1[j]?) → Ep (fun k => slices_Equal_int_int.l0 k x0 x1 (x0.length : Int) (i : Int)) (· = decide (x0 = x1)) := by
  intro d
  induction d with
  | zero =>
    intro i hi hx
    refine Ep.up ?_
    simp only [slices_Equal_int_int.l0]
    refine Ep.neg (by omega) (Ep.now ?_)
    have : x0 = x1 := by
      apply List.ext_getElem?
      intro j
      by_cases hj : j < i
      · exact hx j hj
      · rw [List.getElem?_eq_none (by omega), List.getElem?_eq_none (by omega)]
    simp [this]
  | succ d ih =>
    intro i hi hx
    refine Ep.up ?_
    simp only [slices_Equal_int_int.l0]
    refine Ep.pos (by omega) (Ep.pos (by omega) (Ep.pos (by omega) (Ep.pos (by omega) ?_)))
    rw [rd_get (show i < x0.length by omega), rd_get (show i < x1.length by omega), wrap_succ (by omega)]
    refine Ep.ite (fun e => ?_) (fun e => Ep.now ?_)
    · refine ih (i + 1) (by omega) ?_
      intro j hj
      by_cases ej : j = i
      · subst ej
        rw [List.getElem?_eq_getElem (by omega), List.getElem?_eq_getElem (by omega), e]
      · exact hx j (by omega)
    · have : x0 ≠ x1 := by
        rintro rfl
        exact e rfl
      simp [this]
theorem implSame (x0 x1 : List Int) (h : x0.length ≤ 1048576) : Ep (fun k => impl_SameDivisor.f k x0 x1) (· = decide (x0 = x1)) := by
  simp only [impl_SameDivisor.f, slices_Equal_int_int.f]
  refine Ep.bind (P := (· = decide (x0 = x1))) ?_ ?_
  · refine Ep.ite (fun e => equal_l0 x0 x1 h (by omega) x0.length 0 (by omega) (fun j hj => by omega)) (fun e => Ep.now ?_)
    have : x0 ≠ x1 := by
      rintro rfl
      exact e rfl
    simp [this]
  · rintro _ rfl
    exact Ep.now rfl
theorem specSame_l0 (x0 x1 : List Int) (h : x0.length ≤ 1048576) (hl : x0.length = x1.length) : ∀ (d i : Nat), i + d = x0.length → (∀ j, j < i → x0[j]? = x1[j]?) → Ep (fun k => spec_SameDivisor.l0 k x1 x0 (x0.length : Int) (i : Int)) (· = decide (x0 = x1)) := by
  intro d
  induction d with
  | zero =>
    intro i hi hx
    refine Ep.up ?_
    simp only [spec_SameDivisor.l0]
    refine Ep.neg (by omega) (Ep.now ?_)
    have : x0 = x1 := by
      apply List.ext_getElem?
      intro j
      by_cases hj : j < i
      · exact hx j hj
      · rw [List.getElem?_eq_none (by omega), List.getElem?_eq_none (by omega)]
    simp [this]
  | succ d ih =>
    intro i hi hx
    refine Ep.up ?_
    simp only [spec_SameDivisor.l0]
    refine Ep.pos (by omega) (Ep.pos (by omega) (Ep.pos (by omega) (Ep.pos (by omega) ?_)))
    rw [rd_get (show i < x0.length by omega), rd_get (show i < x1.length by omega), wrap_succ (by omega)]
    refine Ep.ite (fun e => ?_) (fun e => Ep.now ?_)
    · refine ih (i + 1) (by omega) ?_
      intro j hj
      by_cases ej : j = i
      · subst ej
        rw [List.getElem?_eq_getElem (by omega), List.getElem?_eq_getElem (by omega), e]
      · exact hx j (by omega)
    · have : x0 ≠ x1 := by
        rintro rfl
        exact e rfl
      simp [this]
theorem specSame (x0 x1 : List Int) (h : x0.length ≤ 1048576) : Ep (fun k => spec_SameDivisor.f k x0 x1) (· = decide (x0 = x1)) := by
  simp only [spec_SameDivisor.f]
  refine Ep.ite (fun e => specSame_l0 x0 x1 h (by omega) x0.length 0 (by omega) (fun j hj => by omega)) (fun e => Ep.now ?_)
  have : x0 ≠ x1 := by
    rintro rfl
    exact e rfl
  simp [this]
theorem pOk_all {n : Int} {es : List E} {p : List Int} {q : Int} (h : pOk n es p q = true) : ∃ m : Nat, n = m ∧ Gr m es q ∧ Pre m q p ∧ Bd p 60 ∧ Mod p := by
  obtain ⟨m, rfl, g, hp⟩ := pOk_pre h
  obtain ⟨⟨_, _, h3⟩, _⟩ := pOk_iff.1 h
  exact ⟨m, rfl, g, hp, Bd.of60 h3, fun x hx => by have := h3 x hx; omega⟩
theorem sOk_pOk {n : Int} {es : List E} {p : List Int} {q : Int} (h : sOk n es p q = true) : pOk n es p q = true := by
  unfold sOk at h
  rw [Bool.and_eq_true] at h
  exact h.1
/-- Each vertex but q toppled once. -/
def onesF (q : Int) (c : List Int) : Nat → Nat → Bool
  | 0, _ => true
  | d + 1, i => if (i : Int) = q then onesF q c d (i + 1) else if rd c i = 1 then onesF q c d (i + 1) else false
/-- The sink is lit. -/
def litL (n : Nat) (es : List E) (q : Int) (p : List Int) : List Int := repL n fun w => rd p w + mult es q w
theorem litL_pre {n : Nat} {es : List E} {q : Int} (g : Gr n es q) {p : List Int} (hp : Pre n q p) (hb : Bd p 60) : Pre n q (litL n es q p) where
  len := repL_len _ _
  bd := fun v v0 v1 v2 => by
    have e : rd (litL n es q p) v = rd p v + mult es q v := (repL_rep n _).2 v v0 v1
    have h0 := mult_nonneg es q v
    have h1 := mult_le es q v
    have h2 := hp.bd v v0 v1 v2
    have h3 := hb v v0 (by have := hp.len; omega)
    have := g.hel
    omega
  at_q := by
    have e : rd (litL n es q p) q = rd p q + mult es q q := (repL_rep n _).2 q g.hq.1 g.hq.2
    rw [e, hp.at_q, mult_self g.hes]
    rfl
noncomputable def isR (n : Nat) (es : List E) (q : Int) (p : List Int) : Bool := if onesF q (settleS n es q (litL n es q p)).2 (settleS n es q (litL n es q p)).2.length 0 = true then decide ((settleS n es q (litL n es q p)).1 = p) else false
noncomputable def recB (n : Int) (es : List E) (p : List Int) (q : Int) : Bool := sOk n es p q && isR n.toNat es q p
theorem specLit_l0 {n : Nat} {es : List E} {q : Int} (g : Gr n es q) {p : List Int} (hp : Pre n q p) (hb : Bd p 60) : ∀ (d i : Nat), i + d = n → Ep (fun k => spec_l11Lit.l0 k q ((litL n es q p).take i) p (n : Int) (i : Int) (n : Int) es) (· = litL n es q p) := by
  have hn := g.n6
  have hel := g.hel
  have hq := g.hq
  have hpl := hp.len
  have hL : (litL n es q p).length = n := repL_len _ _
  intro d
  induction d with
  | zero =>
    intro i hi
    refine Ep.up ?_
    simp only [spec_l11Lit.l0]
    refine Ep.neg (by omega) (Ep.now ?_)
    rw [List.take_of_length_le (by omega)]
  | succ d ih =>
    intro i hi
    have h1 := hb i (by omega) (by omega)
    have h2 := mult_nonneg es q i
    have h3 := mult_le es q i
    have hlen : ((litL n es q p).take i).length < 17592186044416 := by rw [List.length_take]; omega
    have ih' := ih (i + 1) (by omega)
    have ht : (litL n es q p).take (i + 1) = (litL n es q p).take i ++ [rd p (i : Int) + mult es q (i : Int)] := repL_take _ (by omega)
    rw [ht] at ih'
    refine Ep.up ?_
    simp only [spec_l11Lit.l0]
    rw [wrap_succ (by omega)]
    refine Ep.pos (by omega) (Ep.pos (by omega) (Ep.pos (by omega) (Ep.bind (specMult n es g.hes hel q i hq (by omega)) ?_)))
    rintro _ rfl
    rw [wrap_id (x := rd p (i : Int) + mult es q (i : Int)) (by omega) (by omega)]
    exact Ep.pos hlen ih'
theorem specLit {n : Nat} {es : List E} {q : Int} (g : Gr n es q) {p : List Int} (hp : Pre n q p) (hb : Bd p 60) : Ep (fun k => spec_l11Lit.f k (n : Int) es p q) (· = litL n es q p) := by
  simp only [spec_l11Lit.f]
  have := specLit_l0 g hp hb n 0 (by omega)
  rw [hp.len]
  simpa using this
theorem specRec_l0 (q : Int) (p x c : List Int) (hx : x.length ≤ 1048576) (hc : c.length ≤ 1048576) : ∀ (d i : Nat), i + d = c.length → Ep (fun k => spec_IsRecurrent.l0 k p q x c (c.length : Int) (i : Int)) (· = if onesF q c d i = true then decide (x = p) else false) := by
  intro d
  induction d with
  | zero =>
    intro i hi
    refine Ep.up ?_
    simp only [spec_IsRecurrent.l0]
    refine Ep.neg (by omega) (Ep.bind (specSame x p hx) ?_)
    rintro _ rfl
    exact Ep.now rfl
  | succ d ih =>
    intro i hi
    refine Ep.up ?_
    simp only [spec_IsRecurrent.l0]
    rw [wrap_succ (by omega)]
    unfold onesF
    refine Ep.pos (by omega) (Ep.pos (by omega) (Ep.pos (by omega) (Ep.ite (fun h => ?_) (fun h => Ep.ite (fun h2 => ?_) (fun h2 => Ep.now ?_)))))
    · rw [if_pos h]
      exact ih (i + 1) (by omega)
    · rw [if_neg h, if_pos h2]
      exact ih (i + 1) (by omega)
    · rw [if_neg h, if_neg h2]
      rfl
theorem implRec_l0 (q : Int) (p x c : List Int) (hx : x.length ≤ 1048576) (hc : c.length ≤ 1048576) : ∀ (d i : Nat), i + d = c.length → Ep (fun k => impl_IsRecurrent.l0 k p q x c (c.length : Int) (i : Int)) (· = if onesF q c d i = true then decide (x = p) else false) := by
  intro d
  induction d with
  | zero =>
    intro i hi
    refine Ep.up ?_
    simp only [impl_IsRecurrent.l0]
    refine Ep.neg (by omega) (Ep.bind (implSame x p hx) ?_)
    rintro _ rfl
    exact Ep.now rfl
  | succ d ih =>
    intro i hi
    refine Ep.up ?_
    simp only [impl_IsRecurrent.l0]
    rw [wrap_succ (by omega)]
    unfold onesF
    refine Ep.pos (by omega) (Ep.pos (by omega) (Ep.pos (by omega) (Ep.ite (fun h => ?_) (fun h => Ep.ite (fun h2 => ?_) (fun h2 => Ep.now ?_)))))
    · rw [if_pos h]
      exact ih (i + 1) (by omega)
    · rw [if_neg h, if_pos h2]
      exact ih (i + 1) (by omega)
    · rw [if_neg h, if_neg h2]
      rfl
theorem specRecur (n : Int) (es : List E) (p : List Int) (q : Int) (hel : es.length ≤ 1048576) (hl : p.length ≤ 1048576) : Ep (fun k => spec_IsRecurrent.f k n es p q) (· = recB n es p q) := by
  simp only [spec_IsRecurrent.f, recB]
  refine Ep.bind (specStable n es p q hel hl) ?_
  rintro _ rfl
  refine Ep.ite (fun h => ?_) (fun h => Ep.now ?_)
  · obtain ⟨m, rfl, g, hp, hb, _⟩ := pOk_all (sOk_pOk h)
    rw [h]
    have hlen := settleS_len es q (litL m es q p) g.n6
    refine Ep.bind (specLit g hp hb) ?_
    rintro _ rfl
    refine Ep.bind (specSettle g (litL_pre g hp hb)) ?_
    rintro _ rfl
    refine (specRec_l0 q p _ _ (by omega) (by omega) (settleS m es q (litL m es q p)).2.length 0 (by omega)).mono ?_
    rintro _ rfl
    rfl
  · have : sOk n es p q = false := by simpa using h
    rw [this]
    rfl
theorem implRecur (n : Int) (es : List E) (p : List Int) (q : Int) (hel : es.length ≤ 1048576) (hl : p.length ≤ 1048576) : Ep (fun k => impl_IsRecurrent.f k n es p q) (· = recB n es p q) := by
  simp only [impl_IsRecurrent.f, recB]
  refine Ep.bind (implStable n es p q hel hl) ?_
  rintro _ rfl
  refine Ep.ite (fun h => ?_) (fun h => Ep.now ?_)
  · obtain ⟨m, rfl, g, hp, hb, _⟩ := pOk_all (sOk_pOk h)
    rw [h]
    have hpl := hp.len
    have hq := g.hq
    have hlen := settleS_len es q (litL m es q p) g.n6
    refine Ep.bind0 (copy_eq p hl) ?_
    refine Ep.bind (implFire m es g.hes g.hel p q 1 hpl hq (B := 60) (K := 1) ⟨by omega, by omega⟩ hb (by omega) (by omega)) ?_
    rintro r ⟨hr, _⟩
    have hr' := hr.rep hpl
    refine Ep.pos (by omega) (Ep.pos (by omega) ?_)
    have e : r.set q.toNat 0 = litL m es q p := ((hr'.set hq.1 hq.2 0).congr (t := fun w => rd p w + mult es q w) fun w w0 w1 => by
      by_cases c : w = q
      · rw [if_pos c, c, hp.at_q, mult_self g.hes]; rfl
      · rw [if_neg c, lap_one_ne g.hes c]; omega).eq
    rw [e]
    refine Ep.bind (implStab g (litL_pre g hp hb)) ?_
    rintro _ rfl
    refine (implRec_l0 q p _ _ (by omega) (by omega) (settleS m es q (litL m es q p)).2.length 0 (by omega)).mono ?_
    rintro _ rfl
    rfl
  · have : sOk n es p q = false := by simpa using h
    rw [this]
    rfl
theorem recB_pOk {n : Int} {es : List E} {p : List Int} {q : Int} (h : recB n es p q = true) : pOk n es p q = true := by
  unfold recB at h
  rw [Bool.and_eq_true] at h
  exact sOk_pOk h.1
end Go.Proofs.Ytgobnfeahffnaab.Cf
end

section
namespace Go.Proofs.Ytgobnfeahffnaab.P
open Go.RowKit Go.Proofs.YtgobnfeahffnaabW.PrintWords Go.Proofs.YtgobnfeahffnaabW.PrintLast Go.Proofs.YtgobnfeahffnaabW.PrintMore
attribute [local go_sem] max2_int min2_int max_two min_two max_three min_three max_four min_four
set_option linter.unusedVariables false
set_option linter.unusedSimpArgs false
def impl_DegreeOf.f (k : Nat) (l0 : List Int) : Option (Int) := (impl_sumOf.f k l0).bind fun t101 => (some t101)
theorem impl_DegreeOf.mono : ∀ a0 k, LeO (impl_DegreeOf.f k a0) (impl_DegreeOf.f (k + 1) a0) := by
 intro a0 k; unfold impl_DegreeOf.f; repeat' first | (with_reducible apply impl_sumOf.mono) | (with_reducible exact LeO.refl _) | (with_reducible exact LeO.none _) | (with_reducible refine LeO.ite ?_ ?_) | (with_reducible refine LeO.bind ?_ (fun _ => ?_)) | apply impl_sumOf.mono | exact LeO.none _ | refine LeO.ite ?_ ?_ | refine LeO.bind ?_ (fun _ => ?_)
def spec_l09Zero.f (k : Nat) (a0_0 : Int) (l0_1 : List (S54)) (l1 : List Int) : Option (Bool) := (spec_DivisorOk.f k a0_0 l0_1 l1).bind fun t102 => (if t102 = true then ((spec_DegreeOf.f k l1).bind fun t103 => (some (t103 == 0))) else (some false))
theorem spec_l09Zero.mono : ∀ a0 a1 a2 k, LeO (spec_l09Zero.f k a0 a1 a2) (spec_l09Zero.f (k + 1) a0 a1 a2) := by
 intro a0 a1 a2 k; unfold spec_l09Zero.f; repeat' first | (with_reducible apply spec_DegreeOf.mono) | (with_reducible apply spec_DivisorOk.mono) | (with_reducible exact LeO.refl _) | (with_reducible exact LeO.none _) | (with_reducible refine LeO.ite ?_ ?_) | (with_reducible refine LeO.bind ?_ (fun _ => ?_)) | apply spec_DegreeOf.mono | apply spec_DivisorOk.mono | exact LeO.none _ | refine LeO.ite ?_ ?_ | refine LeO.bind ?_ (fun _ => ?_)
def impl_ofDegreeZero.f (k : Nat) (a0_0 : Int) (l0_1 : List (S54)) (l1 : List Int) : Option (Bool) := (impl_DivisorOk.f k a0_0 l0_1 l1).bind fun t102 => (if t102 = true then ((impl_DegreeOf.f k l1).bind fun t103 => (some (t103 == 0))) else (some false))
theorem impl_ofDegreeZero.mono : ∀ a0 a1 a2 k, LeO (impl_ofDegreeZero.f k a0 a1 a2) (impl_ofDegreeZero.f (k + 1) a0 a1 a2) := by
 intro a0 a1 a2 k; unfold impl_ofDegreeZero.f; repeat' first | (with_reducible apply impl_DegreeOf.mono) | (with_reducible apply impl_DivisorOk.mono) | (with_reducible exact LeO.refl _) | (with_reducible exact LeO.none _) | (with_reducible refine LeO.ite ?_ ?_) | (with_reducible refine LeO.bind ?_ (fun _ => ?_)) | apply impl_DegreeOf.mono | apply impl_DivisorOk.mono | exact LeO.none _ | refine LeO.ite ?_ ?_ | refine LeO.bind ?_ (fun _ => ?_)
end Go.Proofs.Ytgobnfeahffnaab.P
end

section
namespace Go.Proofs.Ytgobnfeahffnaab.Cf
set_option linter.unusedVariables false
set_option linter.unusedSimpArgs false
open Go.RowKit Go.Proofs.YtgobnfeahffnaabW.PrintWords Go.Proofs.Ytgobnfeahffnaab.P
noncomputable def classL (n : Nat) (es : List E) (q : Int) (p : List Int) : List Int := (minL (fullP n es q) (reduceS n es q (minL (fullP n es q) p)).1).set q.toNat 0
theorem fullP_ok {n : Nat} {es : List E} {q : Int} (g : Gr n es q) (hg : GOk (n : Int) es) : (fullP (n : Int) es q).length = n ∧ Bd (fullP (n : Int) es q) 12 := by
  have e : fullP (n : Int) es q = fullL n es q := by
    unfold fullP
    rw [if_pos ⟨gOk_iff.2 hg, g.hq⟩]
  rw [e]
  have hl : (fullL (n : Int) es q).length = n := by simp [fullL]
  refine ⟨hl, fun w w0 w1 => ?_⟩
  obtain ⟨i, rfl⟩ := Int.eq_ofNat_of_zero_le w0
  rw [rd_get (by omega)]
  simp only [fullL, List.getElem_map, List.getElem_range]
  unfold fullAt
  have := valG_bd (n := n) (es := es) (v := i)
  have := g.hel
  split <;> omega
theorem classL_len {n : Nat} {es : List E} {q : Int} (p : List Int) : (classL n es q p).length ≤ 6 := by
  unfold classL
  rw [List.length_set, minL_len]
  exact fullP_len6 _ _ _
theorem specFull11 {n : Nat} {es : List E} {q : Int} (g : Gr n es q) (hg : GOk (n : Int) es) {p : List Int} (hl : p.length = n) (hb : Bd p 1000000) : Ep (fun k => spec_l11Full.f k (n : Int) es p q) (· = (minL (fullP n es q) p).set q.toNat 0) := by
  have hn := g.n6
  have hq := g.hq
  have hf := fullP_ok g hg
  simp only [spec_l11Full.f]
  refine Ep.bind (specFull n es q) ?_
  rintro _ rfl
  refine Ep.bind (specMinus _ p (by omega) (by omega) (hf.2.mono (by omega)) (hb.mono (by omega))) ?_
  rintro _ rfl
  have := minL_len (fullP (n : Int) es q) p
  exact Ep.pos (by omega) (Ep.pos (by omega) (Ep.now rfl))
theorem specClass {n : Nat} {es : List E} {q : Int} (g : Gr n es q) (hg : GOk (n : Int) es) {p : List Int} (hl : p.length = n) (hb : Bd p 900) : Ep (fun k => spec_l11Class.f k (n : Int) es p q) (· = classL n es q p) := by
  have hn := g.n6
  have hf := fullP_ok g hg
  have hm := minL_len (fullP (n : Int) es q) p
  have hmb : Bd (minL (fullP (n : Int) es q) p) 1000 := (minL_bd (by omega) hf.2 hb).mono (by omega)
  simp only [spec_l11Class.f]
  refine Ep.bind (specFull n es q) ?_
  rintro _ rfl
  refine Ep.bind (specMinus _ p (by omega) (by omega) (hf.2.mono (by omega)) (hb.mono (by omega))) ?_
  rintro _ rfl
  refine Ep.bind (specReduce g (by omega) hmb) ?_
  rintro _ rfl
  have hr := reduceS_bd g (d := minL (fullP (n : Int) es q) p) (by omega) hmb
  refine Ep.bind (specFull11 g hg hr.1 (hr.2.mono (by omega))) ?_
  rintro _ rfl
  exact Ep.now rfl
theorem implClass {n : Nat} {es : List E} {q : Int} (g : Gr n es q) (hg : GOk (n : Int) es) {p : List Int} (hl : p.length = n) (hb : Bd p 900) : Ep (fun k => impl_recurrentOf.f k (n : Int) es p q) (· = classL n es q p) := by
  have hn := g.n6
  have hq := g.hq
  have hf := fullP_ok g hg
  have hm := minL_len (fullP (n : Int) es q) p
  have hmb : Bd (minL (fullP (n : Int) es q) p) 1000 := (minL_bd (by omega) hf.2 hb).mono (by omega)
  have hr := reduceS_bd g (d := minL (fullP (n : Int) es q) p) (by omega) hmb
  simp only [impl_recurrentOf.f]
  refine Ep.bind (implFull n es q (by simp [Wf, Lit.wf, IntKind.min, IntKind.max, IntKind.signed, IntKind.bits]; omega)) ?_
  rintro _ rfl
  refine Ep.bind (implNeg p (by omega) (hb.mono (by omega))) ?_
  rintro _ rfl
  refine Ep.bind (implPlus _ _ (by omega) (by rw [negL_len]; omega) (hf.2.mono (by omega)) ((negL_bd hb).mono (by omega))) ?_
  rintro _ rfl
  rw [plus_neg (by omega)]
  refine Ep.bind (implReduce g (by omega) hmb) ?_
  rintro _ rfl
  refine Ep.bind (implNeg _ (by omega) (hr.2.mono (by omega))) ?_
  rintro _ rfl
  refine Ep.bind (implPlus _ _ (by omega) (by rw [negL_len]; omega) (hf.2.mono (by omega)) ((negL_bd hr.2).mono (by omega))) ?_
  rintro _ rfl
  rw [plus_neg (by omega)]
  have := minL_len (fullP (n : Int) es q) (reduceS n es q (minL (fullP (n : Int) es q) p)).1
  exact Ep.pos (by omega) (Ep.pos (by omega) (Ep.now rfl))
end Go.Proofs.Ytgobnfeahffnaab.Cf
end

section
namespace Go.Proofs.Ytgobnfeahffnaab.P
open Go.RowKit Go.Proofs.YtgobnfeahffnaabW.PrintWords Go.Proofs.YtgobnfeahffnaabW.PrintLast Go.Proofs.YtgobnfeahffnaabW.PrintMore
attribute [local go_sem] max2_int min2_int max_two min_two max_three min_three max_four min_four
set_option linter.unusedVariables false
set_option linter.unusedSimpArgs false
def spec_RecurrentOf.f (k : Nat) (a0_0 : Int) (l0_1 : List (S54)) (l1 : List Int) (a2 : Int) : Option (List Int × Bool) := (spec_PileOk.f k a0_0 l0_1 l1 a2).bind fun t102 => (if t102 = true then ((spec_l11Class.f k a0_0 l0_1 l1 a2).bind fun t103 => (some (t103, true))) else (some (([] : List Int), false)))
theorem spec_RecurrentOf.mono : ∀ a0 a1 a2 a3 k, LeO (spec_RecurrentOf.f k a0 a1 a2 a3) (spec_RecurrentOf.f (k + 1) a0 a1 a2 a3) := by
 intro a0 a1 a2 a3 k; unfold spec_RecurrentOf.f; repeat' first | (with_reducible apply spec_PileOk.mono) | (with_reducible apply spec_l11Class.mono) | (with_reducible exact LeO.refl _) | (with_reducible exact LeO.none _) | (with_reducible refine LeO.ite ?_ ?_) | (with_reducible refine LeO.bind ?_ (fun _ => ?_)) | apply spec_PileOk.mono | apply spec_l11Class.mono | exact LeO.none _ | refine LeO.ite ?_ ?_ | refine LeO.bind ?_ (fun _ => ?_)
def impl_RecurrentOf.f (k : Nat) (a0_0 : Int) (l0_1 : List (S54)) (l1 : List Int) (a2 : Int) : Option (List Int × Bool) := (impl_PileOk.f k a0_0 l0_1 l1 a2).bind fun t102 => (if t102 = true then ((impl_recurrentOf.f k a0_0 l0_1 l1 a2).bind fun t103 => (some (t103, true))) else (some (([] : List Int), false)))
theorem impl_RecurrentOf.mono : ∀ a0 a1 a2 a3 k, LeO (impl_RecurrentOf.f k a0 a1 a2 a3) (impl_RecurrentOf.f (k + 1) a0 a1 a2 a3) := by
 intro a0 a1 a2 a3 k; unfold impl_RecurrentOf.f; repeat' first | (with_reducible apply impl_PileOk.mono) | (with_reducible apply impl_recurrentOf.mono) | (with_reducible exact LeO.refl _) | (with_reducible exact LeO.none _) | (with_reducible refine LeO.ite ?_ ?_) | (with_reducible refine LeO.bind ?_ (fun _ => ?_)) | apply impl_PileOk.mono | apply impl_recurrentOf.mono | exact LeO.none _ | refine LeO.ite ?_ ?_ | refine LeO.bind ?_ (fun _ => ?_)
end Go.Proofs.Ytgobnfeahffnaab.P
end

section
namespace Go.Proofs.Ytgobnfeahffnaab.Cf
set_option linter.unusedVariables false
set_option linter.unusedSimpArgs false
open Go.RowKit Go.Proofs.YtgobnfeahffnaabW.PrintWords Go.Proofs.Ytgobnfeahffnaab.P
noncomputable def invPO (n : Int) (es : List E) (p : List Int) (q : Int) : List Int × Bool := if recB n es p q = true then (classL n.toNat es q (negL p), true) else ([], false)
theorem invPO_len (n : Int) (es : List E) (p : List Int) (q : Int) : (invPO n es p q).1.length ≤ 6 := by
  unfold invPO
  split
  · exact classL_len _
  · simp
theorem specInvP (n : Int) (es : List E) (p : List Int) (q : Int) (hel : es.length ≤ 1048576) (hl : p.length ≤ 1048576) : Ep (fun k => spec_InversePile.f k n es p q) (· = invPO n es p q) := by
  simp only [spec_InversePile.f, invPO]
  refine Ep.bind (specRecur n es p q hel hl) ?_
  rintro _ rfl
  refine Ep.ite (fun h => ?_) (fun h => Ep.now (by rw [if_neg h]))
  have hg := (pOk_iff.1 (recB_pOk h)).1.1
  obtain ⟨m, rfl, g, hp, hb, _⟩ := pOk_all (recB_pOk h)
  refine Ep.bind (specNeg p hl (hb.mono (by omega))) ?_
  rintro _ rfl
  refine Ep.bind (specClass g hg (by rw [negL_len]; exact hp.len) ((negL_bd hb).mono (by omega))) ?_
  rintro _ rfl
  exact Ep.now (by rw [if_pos h]; rfl)
theorem implInvP (n : Int) (es : List E) (p : List Int) (q : Int) (hel : es.length ≤ 1048576) (hl : p.length ≤ 1048576) : Ep (fun k => impl_InversePile.f k n es p q) (· = invPO n es p q) := by
  simp only [impl_InversePile.f, invPO]
  refine Ep.bind (implRecur n es p q hel hl) ?_
  rintro _ rfl
  refine Ep.ite (fun h => ?_) (fun h => Ep.now (by rw [if_neg h]))
  have hg := (pOk_iff.1 (recB_pOk h)).1.1
  obtain ⟨m, rfl, g, hp, hb, _⟩ := pOk_all (recB_pOk h)
  refine Ep.bind (implNeg p hl (hb.mono (by omega))) ?_
  rintro _ rfl
  refine Ep.bind (implClass g hg (by rw [negL_len]; exact hp.len) ((negL_bd hb).mono (by omega))) ?_
  rintro _ rfl
  exact Ep.now (by rw [if_pos h]; rfl)
def EWf (e : E) : Prop := Wf .i64 e.f0 ∧ Wf .i64 e.f1
theorem rdLE_get {es : List E} {i : Nat} (h : i < es.length) : rd_T56 es (i : Int) = es[i] := by simp [rd_T56, List.getD, h]
theorem szGraph_ok (n : Int) (es : List E) (a : Int) (ha : 0 ≤ a ∧ a ≤ 1048576) (hl : es.length ≤ 9223372036854775807) : ∃ t, laws_szGraph.f n es a = some t ∧ t ≤ 1048576 ∧ (¬ t < 0 → es.length ≤ 1048576) := by
  unfold laws_szGraph.f laws_szEdgeS.f
  rw [wrap_id (by omega) (by omega)]
  by_cases h : a - (es.length : Int) < 0
  · refine ⟨-1, ?_, by omega, by omega⟩
    rw [if_pos h]
    simp
  · refine ⟨a - es.length, ?_, by omega, by omega⟩
    rw [if_neg h]
    simp only [Option.bind_some]
    rw [if_neg h]
theorem toEdgeS_l0 (x0 : List E) (h : x0.length ≤ 1048576) : ∀ (d i : Nat) (x3 : List E), i + d = x0.length → x3.length = x0.length → (∀ j, j < i → x3[j]? = x0[j]?) → Ep (fun k => laws_toEdgeS.l0 k x0 x3 (i : Int)) (· = x0) := by
  intro d
  induction d with
  | zero =>
    intro i x3 hi hl hx
    refine Ep.up ?_
    simp only [laws_toEdgeS.l0]
    refine Ep.neg (by omega) (Ep.now ?_)
    apply List.ext_getElem?
    intro j
    by_cases hj : j < i
    · exact hx j hj
    · rw [List.getElem?_eq_none (by omega), List.getElem?_eq_none (by omega)]
  | succ d ih =>
    intro i x3 hi hl hx
    have hlt : i < x0.length := by omega
    refine Ep.up ?_
    simp only [laws_toEdgeS.l0]
    refine Ep.pos (by omega) (Ep.pos (by omega) ?_)
    rw [rdLE_get hlt, wrap_succ (by omega)]
    refine Ep.bind0 rfl (Ep.pos (by omega) ?_)
    refine ih (i + 1) _ (by omega) (by simpa using hl) ?_
    intro j hj
    rw [Int.toNat_natCast]
    by_cases e : i = j
    · subst e
      rw [List.getElem?_set_self (by omega), List.getElem?_eq_getElem (by omega)]
    · rw [List.getElem?_set_ne e]
      exact hx j (by omega)
theorem toGraph_ok (n : Int) (es : List E) (h : es.length ≤ 1048576) : Ep (fun k => laws_toGraph.f k n es) (· = (n, es)) := by
  simp only [laws_toGraph.f, laws_toEdgeS.f]
  refine Ep.bind (P := (· = es)) (Ep.pos (by omega) (Ep.pos (by simp; omega) ?_)) ?_
  · exact toEdgeS_l0 es h es.length 0 _ (by omega) (by simp) (fun j hj => by omega)
  · rintro _ rfl
    exact Ep.now rfl
theorem eqEdge_ok (a b : Int) : laws_eqEdge.f a b a b = some true := by simp [laws_eqEdge.f]
theorem eqEdgeS_l0 (x : List E) (h : x.length ≤ 1048576) : ∀ (d i : Nat), i + d = x.length → Ep (fun k => laws_eqEdgeS.l0 k x x (i : Int)) (· = true) := by
  intro d
  induction d with
  | zero =>
    intro i hi
    refine Ep.up ?_
    simp only [laws_eqEdgeS.l0]
    exact Ep.neg (by omega) (Ep.now rfl)
  | succ d ih =>
    intro i hi
    refine Ep.up ?_
    simp only [laws_eqEdgeS.l0]
    refine Ep.pos (by omega) (Ep.pos (by omega) (Ep.pos (by omega) ?_))
    rw [wrap_succ (by omega)]
    exact Ep.bind0 (eqEdge_ok _ _) (Ep.pos rfl (ih (i + 1) (by omega)))
theorem eqGraph_ok (n : Int) (es : List E) (h : es.length ≤ 1048576) : Ep (fun k => laws_eqGraph.f k n es n es) (· = true) := by
  simp only [laws_eqGraph.f]
  refine Ep.pos trivial (Ep.bind (P := (· = true)) ?_ ?_)
  · simp only [laws_eqEdgeS.f]
    exact Ep.pos trivial (eqEdgeS_l0 es h es.length 0 (by omega))
  · rintro _ rfl
    exact Ep.pos rfl (Ep.now rfl)
theorem markEdgeS_l0 (n : Nat) (hn : n ≤ 1048576) {B : Int} (hB : B ≤ 1099511627776) : ∀ (d i : Nat) (x : List E) (a : Int), i + d = n → x.length = n → 0 ≤ a → a + 2 * d ≤ B → Ep (fun k => laws_markEdgeS.l0 k x a (i : Int)) (fun r => 0 ≤ r.1 ∧ r.1 ≤ B) := by
  intro d
  induction d with
  | zero =>
    intro i x a hi hx h0 ha
    refine Ep.up ?_
    simp only [laws_markEdgeS.l0]
    exact Ep.neg (by omega) (Ep.now ⟨h0, by omega⟩)
  | succ d ih =>
    intro i x a hi hx h0 ha
    refine Ep.up ?_
    simp only [laws_markEdgeS.l0]
    refine Ep.pos (by omega) (Ep.pos (by omega) (Ep.bind0 rfl ?_))
    rw [wrap_succ (by omega), wrap_id (x := a + 1) (by omega) (by omega), wrap_id (x := a + 1 + 1) (by omega) (by omega)]
    exact ih (i + 1) _ _ (by omega) (by simpa using hx) (by omega) (by omega)
theorem markGraph_ok (n : Int) (es : List E) (a : Int) (h : es.length ≤ 1048576) (ha : 0 ≤ a ∧ a ≤ 1000) : Ep (fun k => laws_markGraph.f k n es a) (fun r => 0 ≤ r.1 ∧ r.1 ≤ 3000000) := by
  have := markEdgeS_l0 es.length h (B := 3000000) (by omega) es.length 0 es a (by omega) rfl ha.1 (by omega)
  simp only [laws_markGraph.f, laws_markEdgeS.f]
  refine Ep.bind this ?_
  intro r hr
  exact Ep.now hr
theorem law_FnExactInversePile (n : Int) (es : List E) (l : List Int) (q : Int) (hn : Wf .i64 n) (hes : SL EWf es) (wl : SL (Wf .i64) l) (wq : Wf .i64 q) : Ep (fun k => laws_FnExactInversePile.f k n es l q) (· = true) := by
  have hr0 : ((invPO n es l q).1).length ≤ 1048576 := by have := invPO_len n es l q; omega
  simp only [laws_FnExactInversePile.f]
  refine Ep.ite (fun _ => Ep.now rfl) (fun hcl => ?_)
  have hl : l.length ≤ 1048576 := by omega
  obtain ⟨t, ht, _, h2⟩ := szGraph_ok n es 1048576 (by omega) hes.1
  refine Ep.bind0 ht (Ep.ite (fun _ => Ep.now rfl) (fun hc2 => ?_))
  have hel := h2 hc2
  repeat (first
    | exact Ep.now rfl
    | (refine Ep.bind (toGraph_ok _ _ hel) ?_; rintro _ rfl)
    | (refine Ep.bind (eqGraph_ok _ _ hel) ?_; rintro _ rfl)
    | (refine Ep.bind (toIntS_ok _ hl) ?_; rintro _ rfl)
    | (refine Ep.bind (eqIntS_ok _ hr0) ?_; rintro _ rfl)
    | (refine Ep.bind (eqIntS_ok _ hl) ?_; rintro _ rfl)
    | (refine Ep.bind (specInvP _ _ _ _ hel hl) ?_; rintro _ rfl)
    | (refine Ep.bind (implInvP _ _ _ _ hel hl) ?_; rintro _ rfl)
    | (refine Ep.bind (heldIntS_ok _ _ hr0 (by first | omega | (simp; omega))) ?_; rintro _ rfl)
    | (refine Ep.bind (markIntS_ok _ _ hr0 (by first | omega | (simp; omega))) ?_; rintro _ rfl)
    | (refine Ep.bind (markIntS_ok _ _ hl (by first | omega | (simp; omega))) ?_; rintro _ rfl)
    | (refine Ep.bind (markGraph_ok _ _ 1 hel (by omega)) ?_; intro r hr0_)
    | refine Ep.pos rfl ?_
    | refine Ep.pos trivial ?_
    | refine Ep.neg (by simp; omega) ?_
    | refine Ep.neg (by omega) ?_
    | refine Ep.neg (by simp) ?_
    | (refine Ep.up ?_; simp only [laws_FnExactInversePile.j0])
    | (refine Ep.up ?_; simp only [laws_FnExactInversePile.j1])
    | (refine Ep.up ?_; simp only [laws_FnExactInversePile.j2]))
end Go.Proofs.Ytgobnfeahffnaab.Cf
end

section
namespace Go.Proofs.Ytgobnfeahffnaab.Cf
set_option linter.unusedVariables false
set_option linter.unusedSimpArgs false
open Go.RowKit Go.ChangeShapes Go.WideShapes Go.Deep Go.Joins Go.Proofs.YtgobnfeahffnaabW.PrintWords
section
variable {H : Type} {enc : TypeId × Value → H} {P : Program} {w : World} {base : Nat} {spare : Nat → Bool} {held : Bool}
/-- A slice, whatever its elements are, if each of them can be told. -/
theorem trod_C {α : Type} {d : Kd α} {Q : α → Prop} (hd : Inhabited α) {t e : TypeId} {fuel : Nat} {cs : List Value} {x : DataW H × List MemPlace} (ht : P.underlying t = some (.slice e)) (hsz : P.cellsOf e = d.sz)
    (hel : ∀ (n : Nat) (cs : List Value) (y : DataW H × List MemPlace), DataW.trod enc P w base spare held n e cs = some y → ∃ a : α, d.K w a cs ∧ Q a)
    (h : DataW.trod enc P w base spare held fuel t cs = some x) : ∃ A len cap xs, cs = [.slice A len cap] ∧ xs.length = len ∧ len ≤ cap ∧ Kd.C d w A len xs ∧ SL Q xs := by
  rcases open_slice ht h with ⟨rfl, _⟩ | ⟨a, len, cap, m, n, D, Pl, rfl, _, hl, hm, hmm, _, hx⟩
  · exact ⟨none, 0, 0, [], rfl, rfl, Nat.le_refl _, ⟨rfl, by omega, fun hn => by omega⟩, by simp, fun x hx => by cases hx⟩
  · have hlm : len ≤ m := by rw [hmm]; split <;> omega
    obtain ⟨X, hX⟩ := choose_lt (α := α) (n := len) (p := fun i z => Q z ∧ ∃ c, c.length = d.sz ∧ d.K w z c ∧ ∀ j u, c[j]? = some u → w.cell? (a.add (i * d.sz + j)) = some u) (fun i hi => by
      obtain ⟨cs', h1, h2⟩ := hx i (by omega)
      obtain ⟨z, hz, hq⟩ := hel n cs' _ h2
      obtain ⟨_, hlen, hc⟩ := World.cells?_some h1
      refine ⟨z, hq, cs', by rw [hlen, hsz], hz, fun j u hj => ?_⟩
      have hjl : j < cs'.length := by
        apply Classical.byContradiction
        intro hc
        rw [List.getElem?_eq_none (by omega)] at hj
        cases hj
      have := hc j (by omega)
      rw [Deep.add_add, hsz] at this
      rw [this, hj])
    refine ⟨some a, len, cap, (List.range len).map X, rfl, by simp, hl, ⟨by simp, ?_, fun _ => ⟨a, rfl, fun j p hj => ?_⟩⟩, by simp; unfold maxLen at hm; omega, fun x hx => ?_⟩
    · unfold maxLen at hm
      omega
    · have hjl : j < len := by
        apply Classical.byContradiction
        intro hc
        rw [List.getElem?_eq_none (by simp; omega)] at hj
        cases hj
      have : p = X j := by
        rw [List.getElem?_eq_getElem (by simpa using hjl)] at hj
        simpa using hj.symm
      subst this
      exact (hX j hjl).2
    · obtain ⟨i, hi, rfl⟩ := List.mem_map.1 hx
      exact (hX i (List.mem_range.1 hi)).1
theorem el_int {k : IntKind} {e : TypeId} (he : P.underlying e = some (.int k)) : ∀ (n : Nat) (cs : List Value) (y : DataW H × List MemPlace), DataW.trod enc P w base spare held n e cs = some y → ∃ a : Int, (Kd.int k).K w a cs ∧ Wf k a := by
  intro n cs y h
  obtain ⟨a, rfl, _, hw⟩ := DataW.trod_int he h
  exact ⟨a, rfl, hw⟩
/-- A struct of two numbers. -/
theorem el_pair {k0 k1 : IntKind} {e : TypeId} {f0 f1 : Field} (he : P.underlying e = some (.struct #[f0, f1])) (ce : P.cellsOf e = 2) (o0 : f0.offset = 0) (o1 : f1.offset = 1) (c0 : P.cellsOf f0.type = 1) (c1 : P.cellsOf f1.type = 1)
    (u0 : P.underlying f0.type = some (.int k0)) (u1 : P.underlying f1.type = some (.int k1)) :
    ∀ (n : Nat) (cs : List Value) (y : DataW H × List MemPlace), DataW.trod enc P w base spare held n e cs = some y → ∃ a b : Int, cs = [.int k0 a, .int k1 b] ∧ Wf k0 a ∧ Wf k1 b := by
  intro n cs y h
  obtain ⟨y0, y1, m, _, hl, h0, h1⟩ := trod_struct2 he h
  rw [ce] at hl
  rw [o0, c0] at h0
  rw [o1, c1] at h1
  match cs, hl with
  | [a, b], _ =>
    obtain ⟨x, hx, _, wx⟩ := DataW.trod_int u0 h0
    obtain ⟨z, hz, _, wz⟩ := DataW.trod_int u1 h1
    simp at hx hz
    subst hx; subst hz
    exact ⟨x, z, rfl, wx, wz⟩
/-- A slice that comes in. -/
theorem arg_slice {α : Type} {d : Kd α} {Q : α → Prop} (hd : Inhabited α) {t e : TypeId} {a : Option Addr} {len cap : Nat} {x : DataW H} {ps : List MemPlace} (ht : P.underlying t = some (.slice e)) (hsz : P.cellsOf e = d.sz)
    (hel : ∀ (n : Nat) (cs : List Value) (y : DataW H × List MemPlace), DataW.trod enc P w base spare held n e cs = some y → ∃ a : α, d.K w a cs ∧ Q a)
    (h : DataW.Trod enc P w base spare held t (.slice a len cap) x ps) : ∃ xs : List α, xs.length = len ∧ len ≤ cap ∧ Kd.C d w a len xs ∧ SL Q xs := by
  obtain ⟨fuel, hf⟩ := h
  obtain ⟨A, l, c, xs, hcs, hl, hc, hC, hq⟩ := trod_C hd ht hsz hel hf
  simp [Value.cells] at hcs
  obtain ⟨rfl, rfl, rfl⟩ := hcs
  exact ⟨xs, hl, hc, hC, hq⟩
/-- A struct of a number and a slice that comes in. -/
theorem arg_graph {α : Type} {d : Kd α} {Q : α → Prop} (hd : Inhabited α) {r : Reach} {b0 : Nat} {t e : TypeId} {f0 f1 : Field} {v : Value} {x : DataW H} {p : List MemPlace} (hs : P.underlying t = some (.struct #[f0, f1])) (hone : oneCellFields P #[f0, f1] = true) (hC : P.cellsOf t = 2)
    (u0 : P.underlying f0.type = some (.int .i64)) (u1 : P.underlying f1.type = some (.slice e)) (hsz : P.cellsOf e = d.sz)
    (hel : ∀ (n : Nat) (cs : List Value) (y : DataW H × List MemPlace), DataW.trod enc P w base spare held n e cs = some y → ∃ a : α, d.K w a cs ∧ Q a)
    (hv : Value.okWide P w r b0 t v) (h : DataW.Trod enc P w base spare held t v x p) : ∃ n a len cap, ∃ xs : List α, v = .agg #[.int .i64 n, .slice a len cap] ∧ Wf .i64 n ∧ xs.length = len ∧ len ≤ cap ∧ Kd.C d w a len xs ∧ SL Q xs := by
  obtain ⟨v0, v1, y0, y1, m, rfl, _, _, h0, h1⟩ := open_agg2 hs hone hC hv h
  obtain ⟨n, hn, _, hw⟩ := DataW.trod_int u0 h0
  obtain ⟨A, len, cap, xs, hcs, hl, hc, hx, hq⟩ := trod_C hd u1 hsz hel h1
  simp at hn hcs
  subst hn; subst hcs
  exact ⟨n, A, len, cap, xs, rfl, hw, hl, hc, hx, hq⟩
end
end Go.Proofs.Ytgobnfeahffnaab.Cf
end

section
namespace Go.Proofs.Ytgobnfeahffnaab.Cf
theorem and2 {a b : Bool} (h : a = true) (k : b = true) : (a && b) = true := by rw [h, k]; rfl
theorem iniS : Try.prog.initOrder.toList = ['h', 'a', 'r', 'n', 'e', 's', 's', ' ', '9', '4', 'e', '7', '8', '3', 'd', '9', '4', 'b', '7', 'd', '6', 'a', '5', '3', '4', '0', '9', '4', 'f', '0', 'b', 'a', 'd', '9', '6', 'e', '5', 'c', '3', 'a', '1', 'd', '7', 'a', 'e', 'e', 'f', '9', '7', '5', '3', 'e', 'c', '4', '8', '4', '5', 'c', 'a', 'd', '3', '5', '7', 'd', '2', '0', '6', 'f', '1', 'e', '3', 'f', ' ', 'c', 'u', 't', ' ', 'a', 't', ' ', 'l', 'o', 'o', 'p', '.', 'e', 'x', 'a', 'm', 'p', 'l', 'e', '/', 'g', '0', '0', '8', '4', '1', '/', 'l', 'a', 'w', 's', '.', 'F', 'n', 'E', 'x', 'a', 'c', 't', 'P', 'a', 'r', 'k', 'i', 'n', 'g', 'O', 'f', 'P', 'i', 'l', 'e', ' ', 'l', 'o', 'o', 'p', '.', 'e', 'x', 'a', 'm', 'p', 'l', 'e', '/', 'g', '0', '0', '8', '4', '1', '/', 'l', 'a', 'w', 's', '.', 'F', 'n', 'E', 'x', 'a', 'c', 't', 'T', 'i', 'm', 'e', 's', 'C', 'l', 'a', 's', 's', ' ', 'l', 'o', 'o', 'p', '.', 'e', 'x', 'a', 'm', 'p', 'l', 'e', '/', 'g', '0', '0', '8', '4', '1', '/', 'l', 'a', 'w', 's', '.', 'F', 'n', 'E', 'x', 'a', 'c', 't', 'R', 'e', 'c', 'u', 'r', 'r', 'e', 'n', 't', 'O', 'f', ' ', 'l', 'o', 'o', 'p', '.', 'e', 'x', 'a', 'm', 'p', 'l', 'e', '/', 'g', '0', '0', '8', '4', '1', '/', 'l', 'a', 'w', 's', '.', 'F', 'n', 'E', 'x', 'a', 'c', 't', 'I', 'n', 'v', 'e', 'r', 's', 'e', 'P', 'i', 'l', 'e'] := by
  have h : Try.prog.initOrder = String.ofList ['h', 'a', 'r', 'n', 'e', 's', 's', ' ', '9', '4', 'e', '7', '8', '3', 'd', '9', '4', 'b', '7', 'd', '6', 'a', '5', '3', '4', '0', '9', '4', 'f', '0', 'b', 'a', 'd', '9', '6', 'e', '5', 'c', '3', 'a', '1', 'd', '7', 'a', 'e', 'e', 'f', '9', '7', '5', '3', 'e', 'c', '4', '8', '4', '5', 'c', 'a', 'd', '3', '5', '7', 'd', '2', '0', '6', 'f', '1', 'e', '3', 'f', ' ', 'c', 'u', 't', ' ', 'a', 't', ' ', 'l', 'o', 'o', 'p', '.', 'e', 'x', 'a', 'm', 'p', 'l', 'e', '/', 'g', '0', '0', '8', '4', '1', '/', 'l', 'a', 'w', 's', '.', 'F', 'n', 'E', 'x', 'a', 'c', 't', 'P', 'a', 'r', 'k', 'i', 'n', 'g', 'O', 'f', 'P', 'i', 'l', 'e', ' ', 'l', 'o', 'o', 'p', '.', 'e', 'x', 'a', 'm', 'p', 'l', 'e', '/', 'g', '0', '0', '8', '4', '1', '/', 'l', 'a', 'w', 's', '.', 'F', 'n', 'E', 'x', 'a', 'c', 't', 'T', 'i', 'm', 'e', 's', 'C', 'l', 'a', 's', 's', ' ', 'l', 'o', 'o', 'p', '.', 'e', 'x', 'a', 'm', 'p', 'l', 'e', '/', 'g', '0', '0', '8', '4', '1', '/', 'l', 'a', 'w', 's', '.', 'F', 'n', 'E', 'x', 'a', 'c', 't', 'R', 'e', 'c', 'u', 'r', 'r', 'e', 'n', 't', 'O', 'f', ' ', 'l', 'o', 'o', 'p', '.', 'e', 'x', 'a', 'm', 'p', 'l', 'e', '/', 'g', '0', '0', '8', '4', '1', '/', 'l', 'a', 'w', 's', '.', 'F', 'n', 'E', 'x', 'a', 'c', 't', 'I', 'n', 'v', 'e', 'r', 's', 'e', 'P', 'i', 'l', 'e'] := by kernel_rfl
  exact (congrArg String.toList h).trans String.toList_ofList
theorem iniW : behindMainWord (wordsSigns Try.prog.initOrder.toList) = [['c', 'u', 't'], ['a', 't'], ['l', 'o', 'o', 'p', '.', 'e', 'x', 'a', 'm', 'p', 'l', 'e', '/', 'g', '0', '0', '8', '4', '1', '/', 'l', 'a', 'w', 's', '.', 'F', 'n', 'E', 'x', 'a', 'c', 't', 'P', 'a', 'r', 'k', 'i', 'n', 'g', 'O', 'f', 'P', 'i', 'l', 'e'], ['l', 'o', 'o', 'p', '.', 'e', 'x', 'a', 'm', 'p', 'l', 'e', '/', 'g', '0', '0', '8', '4', '1', '/', 'l', 'a', 'w', 's', '.', 'F', 'n', 'E', 'x', 'a', 'c', 't', 'T', 'i', 'm', 'e', 's', 'C', 'l', 'a', 's', 's'], ['l', 'o', 'o', 'p', '.', 'e', 'x', 'a', 'm', 'p', 'l', 'e', '/', 'g', '0', '0', '8', '4', '1', '/', 'l', 'a', 'w', 's', '.', 'F', 'n', 'E', 'x', 'a', 'c', 't', 'R', 'e', 'c', 'u', 'r', 'r', 'e', 'n', 't', 'O', 'f'], ['l', 'o', 'o', 'p', '.', 'e', 'x', 'a', 'm', 'p', 'l', 'e', '/', 'g', '0', '0', '8', '4', '1', '/', 'l', 'a', 'w', 's', '.', 'F', 'n', 'E', 'x', 'a', 'c', 't', 'I', 'n', 'v', 'e', 'r', 's', 'e', 'P', 'i', 'l', 'e']] := (congrArg (fun x => behindMainWord (wordsSigns x)) iniS).trans (by kernel_rfl)
theorem mk_cut {P : Program} {r : List (List Char)} (h : behindMainWord (wordsSigns P.initOrder.toList) = ['c', 'u', 't'] :: r) : P.make = some .cut := by
  unfold Program.make
  rw [h]
  rfl
theorem lf_cut {P : Program} {r : List (List Char)} (h : behindMainWord (wordsSigns P.initOrder.toList) = ['c', 'u', 't'] :: r) (k : (stripLifts liftWords (['c', 'u', 't'] :: r)).1 = []) : P.liftsFinal = false := by
  unfold Program.liftsFinal Program.headLifts
  rw [h]
  simp [k]
theorem en_cut {P : Program} {r : List (List Char)} (h : behindMainWord (wordsSigns P.initOrder.toList) = ['c', 'u', 't'] :: r) (k1 : (stripLifts liftWords (['c', 'u', 't'] :: r)).1 = []) (k2 : ((stripLifts liftWords (['c', 'u', 't'] :: r)).2.head? == some "cut".toList) = true) (h1 : P.laysLater = false) (h2 : P.bearsReflect = false) (h3 : P.doorFits [] = true) : P.mayEnter = true := by
  unfold Program.mayEnter
  rw [h]
  simp only [k1, k2, h1, h2, h3]
  simp
theorem make : Try.prog.make = some .cut := mk_cut iniW
theorem lifted : Try.prog.liftsFinal = false := lf_cut iniW (by kernel_rfl)
theorem enter : Try.prog.mayEnter = true := en_cut iniW (by kernel_rfl) (by kernel_rfl) (by kernel_rfl) (by kernel_rfl) (by kernel_rfl)
end Go.Proofs.Ytgobnfeahffnaab.Cf
end

