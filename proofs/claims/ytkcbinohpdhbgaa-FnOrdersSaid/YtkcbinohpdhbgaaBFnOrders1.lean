/- A part of the proof of FnOrders. -/
import Derived.Test.YtkcbinohpdhbgaaBFnOrders0
import Derived.Test.YtkcbinohpdhbgaaBFnOrdersWMore
import Derived.Laws.BitsLemmas
import Derived.StillTailTactics
import Derived.Deep.RegionLaw
import Derived.Deep.LoopGhost
import Derived.Lib.Walk
import Derived.Lib.SliceRun
set_option maxHeartbeats 8000000
set_option maxRecDepth 1000000
section
namespace Go.Proofs.Ytkcbinohpdhbgaa.Cf
set_option linter.unusedVariables false
set_option linter.unusedSimpArgs false
open Go.RowKit Go.Proofs.YtkcbinohpdhbgaaW.PrintWords Go.Proofs.YtkcbinohpdhbgaaW.PrintMore Go.Proofs.Ytkcbinohpdhbgaa.P
theorem within_eq (a b c : Int) : impl_within.f a b c = some (decide (b ≤ a ∧ a ≤ c)) := by
 unfold impl_within.f
 by_cases h : a ≥ b
 ·rw [if_pos h]
  have : (b ≤ a ∧ a ≤ c) ↔ a ≤ c := ⟨fun x => x.2, fun x => ⟨h, x⟩⟩
  simp only [this]
 ·rw [if_neg h]
  have : ¬ (b ≤ a ∧ a ≤ c) := fun x => h x.1
  simp only [this, decide_false]
theorem implEdges_l0 (n : Int) (es : List E) (hl : es.length ≤ 12) : ∀ (d i : Nat), i + d = es.length → Ep (fun k => impl_EdgesOk.l0 k es (es.length : Int) (i : Int) n es) (· = decide (∀ e ∈ es.drop i, EOk n e)) := by
 intro d
 induction d with
 | zero =>
  intro i hi
  refine Ep.up ?_
  simp only [impl_EdgesOk.l0]
  refine Ep.neg (by omega) (Ep.now ?_)
  rw [List.drop_of_length_le (by omega)]
  simp
 | succ d ih =>
  intro i hi
  have hlt : i < es.length := by omega
  have no : ¬ EOk n es[i] → false = decide (∀ e ∈ es.drop i, EOk n e) := fun h => by simp only [forall_drop hlt, h, false_and, decide_false]
  refine Ep.up ?_
  simp only [impl_EdgesOk.l0]
  refine Ep.pos (by omega) (Ep.pos (by omega) (Ep.pos (by omega) ?_))
  rw [rdE_get hlt]
  refine Ep.ite (fun h => Ep.now (no (by unfold EOk; omega))) (fun h0 => ?_)
  refine Ep.ite (fun h => Ep.now (no (by unfold EOk; omega))) (fun h1 => ?_)
  refine Ep.ite (fun h => Ep.now (no (by unfold EOk; omega))) (fun h2 => ?_)
  rw [wrap_succ (by omega)]
  refine (ih (i + 1) (by omega)).mono ?_
  rintro _ rfl
  have : EOk n es[i] := by unfold EOk; omega
  simp only [forall_drop hlt, this, true_and]
theorem implEdges (n : Int) (es : List E) : Ep (fun k => impl_EdgesOk.f k n es) (· = decide (EsOk n es)) := by
 simp only [impl_EdgesOk.f]
 refine Ep.bind0 (within_eq _ _ _) ?_
 refine Ep.ite (fun h0 => ?_) (fun h0 => ?_)
 ·have h0' : 1 ≤ n ∧ n ≤ 6 := by simpa using h0
  refine Ep.up ?_
  simp only [impl_EdgesOk.j0]
  refine Ep.ite (fun h1 => Ep.now ?_) (fun h1 => ?_)
  ·have : ¬ EsOk n es := by
    have : (es.length : Int) > 12 := by simpa using h1
    unfold EsOk
    omega
   simp [this]
  ·have hl : es.length ≤ 12 := by
    have : ¬ (es.length : Int) > 12 := by simpa using h1
    omega
   refine (implEdges_l0 n es hl es.length 0 (by omega)).mono ?_
   rintro _ rfl
   rw [List.drop_zero]
   unfold EsOk
   simp only [h0'.1, h0'.2, hl, true_and]
 ·have h0' : ¬ (1 ≤ n ∧ n ≤ 6) := by simpa using h0
  refine Ep.up ?_
  simp only [impl_EdgesOk.j0]
  refine Ep.pos (by simp) (Ep.now ?_)
  have : ¬ EsOk n es := by
   unfold EsOk
   omega
  simp [this]
theorem wraps_i64 (n : Int) (h0 : 0 ≤ n) (h1 : n < 2 ^ 62) : IntKind.i64.wrap n = n := by rw [IntKind.wrap_i64]; omega
theorem or_nat {a b : Nat} (ha : a < 2 ^ 62) (hb : b < 2 ^ 62) : Go.bits .or .i64 (a : Int) (b : Int) = ((a ||| b : Nat) : Int) := (bits_nat .i64 62 (by decide) wraps_i64 a b ha hb).2
theorem and_nat {a b : Nat} (ha : a < 2 ^ 62) (hb : b < 2 ^ 62) : Go.bits .and .i64 (a : Int) (b : Int) = ((a &&& b : Nat) : Int) := (bits_nat .i64 62 (by decide) wraps_i64 a b ha hb).1
theorem shl_nat {a : Nat} (ha : a < 62) : shl .i64 1 (a : Int) = ((2 ^ a : Nat) : Int) := by
 unfold shl
 have : (2 : Int) ^ a < 2 ^ 62 := by
  have := Nat.pow_lt_pow_right (a := 2) (by decide) ha
  exact_mod_cast this
 rw [Int.toNat_natCast, Nat.min_eq_left (by show a ≤ 64; omega), Int.one_mul, wraps_i64 _ (by have := Int.pow_nonneg (n := 2) (m := a) (by decide); omega) this]
 simp
theorem shr_nat {m a : Nat} (ha : a < 62) : shr .i64 (m : Int) (a : Int) = ((m / 2 ^ a : Nat) : Int) := by
 unfold shr
 rw [Int.toNat_natCast, Nat.min_eq_left (by show a ≤ 64; omega)]
 simp
theorem bit_test {m : Nat} (hm : m < 2 ^ 62) {a : Nat} (ha : a < 62) : Go.bits .and .i64 (shr .i64 (m : Int) (a : Int)) 1 = 1 ↔ m.testBit a = true := by
 rw [shr_nat ha, show (1 : Int) = ((1 : Nat) : Int) from rfl, and_nat (Nat.lt_of_le_of_lt (Nat.div_le_self _ _) hm) (by decide)]
 rw [Nat.testBit_eq_decide_div_mod_eq, Nat.and_one_is_mod]
 generalize m / 2 ^ a = x
 simp only [decide_eq_true_eq]
 omega
theorem bit_cases {m a : Nat} : m.testBit a = true ∨ m.testBit a = false := by cases m.testBit a <;> simp
theorem step_lt {m : Nat} {e : E} {n : Int} (hm : m < 2 ^ 6) (he : EOk n e) (hn : n ≤ 6) : stepM m e < 2 ^ 6 := by
 unfold EOk at he
 unfold stepM
 split
 ·apply Nat.or_lt_two_pow hm
  apply Nat.or_lt_two_pow
  ·exact Nat.pow_lt_pow_right (by decide) (by omega)
  ·exact Nat.pow_lt_pow_right (by decide) (by omega)
 ·exact hm
theorem round_lt {n : Int} (hn : n ≤ 6) : ∀ (es : List E), (∀ e ∈ es, EOk n e) → ∀ {m : Nat}, m < 2 ^ 6 → roundM es m < 2 ^ 6 := by
 intro es
 induction es with
 | nil => intro _ m h; exact h
 | cons e r ih => intro hes m h; exact ih (fun x hx => hes x (List.mem_cons_of_mem _ hx)) (step_lt h (hes e List.mem_cons_self) hn)
open Classical in
noncomputable def joinedB (n : Int) (es : List E) : Bool := decide (Joined n es)
theorem joinedB_iff {n : Int} {es : List E} : joinedB n es = true ↔ Joined n es := by unfold joinedB; simp
theorem implConn_l1 (n : Int) (hn : n ≤ 6) (es : List E) (hl : es.length ≤ 1048576) (hes : ∀ e ∈ es, EOk n e) (x8 x9 : Int) {Q : Bool → Prop} (m0 : Nat)
  (hk : Ep (fun k => impl_connected.l0 k n es ((roundM es m0 : Nat) : Int) x8 (wrap64 (x9 + 1))) Q) :
  ∀ (d i : Nat) (m : Nat), i + d = es.length → m < 2 ^ 6 → roundM (es.drop i) m = roundM es m0 → Ep (fun k => impl_connected.l1 k n es (m : Int) x8 x9 es (es.length : Int) (i : Int)) Q := by
 intro d
 induction d with
 | zero =>
  intro i m hi hm hr
  refine Ep.up ?_
  simp only [impl_connected.l1]
  refine Ep.neg (by omega) ?_
  rw [List.drop_of_length_le (by omega)] at hr
  have e : m = roundM es m0 := hr
  rw [e]
  exact hk
 | succ d ih =>
  intro i m hi hm hr
  have hlt : i < es.length := by omega
  have hek := hes es[i] (List.getElem_mem hlt)
  have he := hek
  unfold EOk at he
  rw [List.drop_eq_getElem_cons hlt] at hr
  have hr' : roundM (es.drop (i + 1)) (stepM m es[i]) = roundM es m0 := hr
  have hst := step_lt hm hek hn
  obtain ⟨a, ha⟩ := Int.eq_ofNat_of_zero_le he.1
  obtain ⟨b, hb⟩ := Int.eq_ofNat_of_zero_le (a := es[i].f1) (by omega)
  have ha6 : a < 6 := by omega
  have hb6 : b < 6 := by omega
  have hm62 : m < 2 ^ 62 := by omega
  have pa : 2 ^ a < 2 ^ 6 := Nat.pow_lt_pow_right (by decide) ha6
  have pb : 2 ^ b < 2 ^ 6 := Nat.pow_lt_pow_right (by decide) hb6
  have pab : 2 ^ a ||| 2 ^ b < 2 ^ 6 := Nat.or_lt_two_pow pa pb
  have hset : Go.bits .or .i64 (m : Int) (Go.bits .or .i64 (shl .i64 1 (a : Int)) (shl .i64 1 (b : Int))) = ((m ||| (2 ^ a ||| 2 ^ b) : Nat) : Int) := by
   rw [shl_nat (by omega), shl_nat (by omega), or_nat (by omega) (by omega), or_nat (by omega) (by omega)]
  have hstep : (m.testBit a || m.testBit b) = true → stepM m es[i] = m ||| (2 ^ a ||| 2 ^ b) := by
   intro h
   unfold stepM
   rw [ha, hb]
   simp only [Int.ofNat_eq_natCast, Int.toNat_natCast]
   rw [if_pos h]
  have hstay : (m.testBit a || m.testBit b) = false → stepM m es[i] = m := by
   intro h
   unfold stepM
   rw [ha, hb]
   simp only [Int.ofNat_eq_natCast, Int.toNat_natCast]
   rw [if_neg (by rw [h]; simp)]
  refine Ep.up ?_
  simp only [impl_connected.l1]
  refine Ep.pos (by omega) (Ep.pos (by omega) (Ep.pos (by omega) ?_))
  rw [rdE_get hlt, ha, hb]
  refine Ep.pos (by omega) ?_
  rw [hset, wrap_succ (by omega)]
  refine Ep.ite (fun h => Ep.pos (by omega) ?_) (fun h => Ep.pos (by omega) (Ep.ite (fun h2 => ?_) (fun h2 => ?_)))
  ·have := (bit_test hm62 (by omega)).1 h
   rw [← hstep (by rw [this]; rfl)]
   exact ih (i + 1) _ (by omega) hst hr'
  ·have := (bit_test hm62 (by omega)).1 h2
   rw [← hstep (by rw [this]; simp)]
   exact ih (i + 1) _ (by omega) hst hr'
  ·have h1 : m.testBit a = false := by
    rcases bit_cases (m := m) (a := a) with x | x
    ·exact absurd ((bit_test hm62 (by omega)).2 x) h
    ·exact x
   have h3 : m.testBit b = false := by
    rcases bit_cases (m := m) (a := b) with x | x
    ·exact absurd ((bit_test hm62 (by omega)).2 x) h2
    ·exact x
   have := hstay (by rw [h1, h3]; rfl)
   rw [this] at hr'
   exact ih (i + 1) _ (by omega) hm hr'
theorem implConn_l0 (n : Nat) (hn : 1 ≤ n ∧ n ≤ 6) (es : List E) (hl : es.length ≤ 1048576) (hes : ∀ e ∈ es, EOk n e) : ∀ (d i m : Nat), i + d = n → m < 2 ^ 6 → timesM es d m = timesM es n 1 → Ep (fun k => impl_connected.l0 k (n : Int) es (m : Int) (n : Int) (i : Int)) (· = joinedB n es) := by
 intro d
 induction d with
 | zero =>
  intro i m hi hm hr
  refine Ep.up ?_
  simp only [impl_connected.l0]
  refine Ep.neg (by omega) (Ep.pos (by omega) (Ep.now ?_))
  have hr' : m = timesM es n 1 := hr
  have hp : 1 ≤ 2 ^ n := Nat.one_le_two_pow
  have hp2 : 2 ^ n ≤ 2 ^ 6 := Nat.pow_le_pow_right (by decide) hn.2
  rw [shl_nat (by omega), wrap_id (by omega) (by omega)]
  rw [Bool.eq_iff_iff, joinedB_iff, ← times_joined hn.1 hes, ← hr']
  simp only [beq_iff_eq]
  omega
 | succ d ih =>
  intro i m hi hm hr
  refine Ep.up ?_
  simp only [impl_connected.l0]
  refine Ep.pos (by omega) ?_
  refine implConn_l1 n (by omega) es hl hes _ _ m ?_ es.length 0 m (by omega) hm (by rw [List.drop_zero])
  rw [wrap_succ (by omega)]
  exact ih (i + 1) _ (by omega) (round_lt (by omega) es hes hm) hr
theorem implConn (n : Nat) (hn : 1 ≤ n ∧ n ≤ 6) (es : List E) (hl : es.length ≤ 1048576) (hes : ∀ e ∈ es, EOk n e) : Ep (fun k => impl_connected.f k (n : Int) es) (· = joinedB n es) := by
 simp only [impl_connected.f]
 exact implConn_l0 n hn es hl hes n 0 1 (by omega) (by decide) rfl
end Go.Proofs.Ytkcbinohpdhbgaa.Cf
end

section
namespace Go.Proofs.Ytkcbinohpdhbgaa.P
open Go.RowKit Go.Proofs.YtkcbinohpdhbgaaW.PrintWords Go.Proofs.YtkcbinohpdhbgaaW.PrintLast Go.Proofs.YtkcbinohpdhbgaaW.PrintMore
attribute [local go_sem] max2_int min2_int max_two min_two max_three min_three max_four min_four
set_option linter.unusedVariables false
set_option linter.unusedSimpArgs false
def cmp_isNaN_int.f (a0 : Int) : Option (Bool) := some (a0 != a0)
theorem cmp_isNaN_int.calls (a0 : Int) (r : Bool) (w : World) (h : cmp_isNaN_int.f a0 = some r) :
  Calls Try.prog 106 #[.int .i64 a0] w fun e w' => e = .returned (.bool r) ∧ Drawn0 w w' := by
 have H : (some (a0 != a0)) = some r := h; clear h; obtain rfl := Option.some.inj H; go_enter Try.func106, Try.ntmps106; go_wp2; go_ret; exact ⟨zz6, by repeat (first | exact Drawn0.refl _ | apply Drawn0.step)⟩
def cmp_Compare_int.f (a0 : Int) (a1 : Int) : Option (Int) := (cmp_isNaN_int.f a0).bind fun bH => ((cmp_isNaN_int.f a1).bind fun aT => (if bH = true then (if aT = true then (some 0) else (some (-1))) else (if aT = true then (some 1) else (if a0 < a1 then (some (-1)) else (if a0 > a1 then (some 1) else (some 0))))))
theorem cmp_Compare_int.calls (a0 : Int) (a1 : Int) (r : Int) (w : World) (h : cmp_Compare_int.f a0 a1 = some r) :
  Calls Try.prog 98 #[.int .i64 a0, .int .i64 a1] w fun e w' => e = .returned (.int .i64 r) ∧ Drawn0 w w' := by
 have H : ((cmp_isNaN_int.f a0).bind fun bH => ((cmp_isNaN_int.f a1).bind fun aT => (if bH = true then (if aT = true then (some 0) else (some (-1))) else (if aT = true then (some 1) else (if a0 < a1 then (some (-1)) else (if a0 > a1 then (some 1) else (some 0))))))) = some r := h; clear h; obtain ⟨bH, A30, H⟩ := zO_ H; (try dsimp only at H); have A3 := zK_ A30; clear A30; obtain ⟨aT, A40, H⟩ := zO_ H; (try dsimp only at H); have A4 := zK_ A40; clear A40; by_cases c5 : bH = true
 ·subst c5; rw [if_pos rfl] at H; by_cases c6 : aT = true
  ·subst c6; rw [if_pos rfl] at H; obtain rfl := Option.some.inj H; go_enter Try.func98, Try.ntmps98; (go_wp2_with (first | ((with_reducible refine gate_callee (f := 106) rfl ?_); refine goesL_ (some 8) rfl rfl Try.func106 (by kernel_rfl) rfl #[.int .i64 a0] rfl zz3 ?_; (with_reducible refine (cmp_isNaN_int.calls a0 true _ A3.out).mono ?_); rintro e w' ⟨rfl, ⟨nd, rfl⟩⟩; refine ⟨_, rfl, ?_⟩) | ((with_reducible refine gate_callee (f := 106) rfl ?_); refine goesL_ (some 10) rfl rfl Try.func106 (by kernel_rfl) rfl #[.int .i64 a1] rfl zz3 ?_; (with_reducible refine (cmp_isNaN_int.calls a1 true _ A4.out).mono ?_); rintro e w' ⟨rfl, ⟨nd, rfl⟩⟩; refine ⟨_, rfl, ?_⟩))); go_ret; exact ⟨zz6, by repeat (first | exact Drawn0.refl _ | apply Drawn0.step)⟩
  replace c6 := Bool.eq_false_iff.mpr c6; subst c6; rw [if_neg (show ¬ (false = true) by decide)] at H; obtain rfl := Option.some.inj H; go_enter Try.func98, Try.ntmps98; (go_wp2_with (first | ((with_reducible refine gate_callee (f := 106) rfl ?_); refine goesL_ (some 8) rfl rfl Try.func106 (by kernel_rfl) rfl #[.int .i64 a0] rfl zz3 ?_; (with_reducible refine (cmp_isNaN_int.calls a0 true _ A3.out).mono ?_); rintro e w' ⟨rfl, ⟨nd, rfl⟩⟩; refine ⟨_, rfl, ?_⟩) | ((with_reducible refine gate_callee (f := 106) rfl ?_); refine goesL_ (some 10) rfl rfl Try.func106 (by kernel_rfl) rfl #[.int .i64 a1] rfl zz3 ?_; (with_reducible refine (cmp_isNaN_int.calls a1 false _ A4.out).mono ?_); rintro e w' ⟨rfl, ⟨nd, rfl⟩⟩; refine ⟨_, rfl, ?_⟩))); go_ret; exact ⟨zz6, by repeat (first | exact Drawn0.refl _ | apply Drawn0.step)⟩
 replace c5 := Bool.eq_false_iff.mpr c5; subst c5; rw [if_neg (show ¬ (false = true) by decide)] at H; by_cases c7 : aT = true
 ·subst c7; rw [if_pos rfl] at H; obtain rfl := Option.some.inj H; go_enter Try.func98, Try.ntmps98; (go_wp2_with (first | ((with_reducible refine gate_callee (f := 106) rfl ?_); refine goesL_ (some 8) rfl rfl Try.func106 (by kernel_rfl) rfl #[.int .i64 a0] rfl zz3 ?_; (with_reducible refine (cmp_isNaN_int.calls a0 false _ A3.out).mono ?_); rintro e w' ⟨rfl, ⟨nd, rfl⟩⟩; refine ⟨_, rfl, ?_⟩) | ((with_reducible refine gate_callee (f := 106) rfl ?_); refine goesL_ (some 10) rfl rfl Try.func106 (by kernel_rfl) rfl #[.int .i64 a1] rfl zz3 ?_; (with_reducible refine (cmp_isNaN_int.calls a1 true _ A4.out).mono ?_); rintro e w' ⟨rfl, ⟨nd, rfl⟩⟩; refine ⟨_, rfl, ?_⟩))); go_ret; exact ⟨zz6, by repeat (first | exact Drawn0.refl _ | apply Drawn0.step)⟩
 replace c7 := Bool.eq_false_iff.mpr c7; subst c7; rw [if_neg (show ¬ (false = true) by decide)] at H; by_cases c8 : a0 < a1
 ·rw [if_pos c8] at H; have gV := decide_eq_true c8; clear c8; obtain rfl := Option.some.inj H; go_enter Try.func98, Try.ntmps98; (go_wp2_with (first | ((with_reducible refine gate_callee (f := 106) rfl ?_); refine goesL_ (some 8) rfl rfl Try.func106 (by kernel_rfl) rfl #[.int .i64 a0] rfl zz3 ?_; (with_reducible refine (cmp_isNaN_int.calls a0 false _ A3.out).mono ?_); rintro e w' ⟨rfl, ⟨nd, rfl⟩⟩; refine ⟨_, rfl, ?_⟩) | ((with_reducible refine gate_callee (f := 106) rfl ?_); refine goesL_ (some 10) rfl rfl Try.func106 (by kernel_rfl) rfl #[.int .i64 a1] rfl zz3 ?_; (with_reducible refine (cmp_isNaN_int.calls a1 false _ A4.out).mono ?_); rintro e w' ⟨rfl, ⟨nd, rfl⟩⟩; refine ⟨_, rfl, ?_⟩))); go_ret; exact ⟨zz6, by repeat (first | exact Drawn0.refl _ | apply Drawn0.step)⟩
 rw [if_neg c8] at H; have gV := decide_eq_false c8; clear c8; by_cases c9 : a0 > a1
 ·rw [if_pos c9] at H; have lA : decide (a1 < a0) = true := decide_eq_true c9; clear c9; obtain rfl := Option.some.inj H; go_enter Try.func98, Try.ntmps98; (go_wp2_with (first | ((with_reducible refine gate_callee (f := 106) rfl ?_); refine goesL_ (some 8) rfl rfl Try.func106 (by kernel_rfl) rfl #[.int .i64 a0] rfl zz3 ?_; (with_reducible refine (cmp_isNaN_int.calls a0 false _ A3.out).mono ?_); rintro e w' ⟨rfl, ⟨nd, rfl⟩⟩; refine ⟨_, rfl, ?_⟩) | ((with_reducible refine gate_callee (f := 106) rfl ?_); refine goesL_ (some 10) rfl rfl Try.func106 (by kernel_rfl) rfl #[.int .i64 a1] rfl zz3 ?_; (with_reducible refine (cmp_isNaN_int.calls a1 false _ A4.out).mono ?_); rintro e w' ⟨rfl, ⟨nd, rfl⟩⟩; refine ⟨_, rfl, ?_⟩))); go_ret; exact ⟨zz6, by repeat (first | exact Drawn0.refl _ | apply Drawn0.step)⟩
 rw [if_neg c9] at H; have lA : decide (a1 < a0) = false := decide_eq_false c9; clear c9; obtain rfl := Option.some.inj H; go_enter Try.func98, Try.ntmps98; (go_wp2_with (first | ((with_reducible refine gate_callee (f := 106) rfl ?_); refine goesL_ (some 8) rfl rfl Try.func106 (by kernel_rfl) rfl #[.int .i64 a0] rfl zz3 ?_; (with_reducible refine (cmp_isNaN_int.calls a0 false _ A3.out).mono ?_); rintro e w' ⟨rfl, ⟨nd, rfl⟩⟩; refine ⟨_, rfl, ?_⟩) | ((with_reducible refine gate_callee (f := 106) rfl ?_); refine goesL_ (some 10) rfl rfl Try.func106 (by kernel_rfl) rfl #[.int .i64 a1] rfl zz3 ?_; (with_reducible refine (cmp_isNaN_int.calls a1 false _ A4.out).mono ?_); rintro e w' ⟨rfl, ⟨nd, rfl⟩⟩; refine ⟨_, rfl, ?_⟩))); go_ret; exact ⟨zz6, by repeat (first | exact Drawn0.refl _ | apply Drawn0.step)⟩
def impl_compareEdges.f (aD : Int) (mT : Int) (iI : Int) (qE : Int) : Option (Int) := (cmp_Compare_int.f aD iI).bind fun bD => (if bD = 0 then ((cmp_Compare_int.f mT qE).bind fun fH => (some fH)) else (some bD))
theorem impl_compareEdges.calls (aD : Int) (mT : Int) (iI : Int) (qE : Int) (r : Int) (w : World) (h : impl_compareEdges.f aD mT iI qE = some r) :
  Calls Try.prog 75 #[.agg #[.int .i64 aD, .int .i64 mT], .agg #[.int .i64 iI, .int .i64 qE]] w fun e w' => e = .returned (.int .i64 r) ∧ Below w.heap.size w w' := by
 have hu76 := Try.underlying76; have HB := zK_ (Below.refl w.heap.size w); have H : ((cmp_Compare_int.f aD iI).bind fun bD => (if bD = 0 then ((cmp_Compare_int.f mT qE).bind fun fH => (some fH)) else (some bD))) = some r := h; clear h; obtain ⟨bD, A30, H⟩ := zO_ H; (try dsimp only at H); have A3 := zK_ A30; clear A30; by_cases c4 : bD = 0; rotate_left
 ·rw [if_neg c4] at H; have iQ : (bD == 0) = false := beq_eq_false_iff_ne.mpr c4; have uX : (bD != 0) = true := bne_iff_ne.mpr c4; obtain rfl := Option.some.inj H; go_enter Try.func75, Try.ntmps75; (go_wp2_with (first | ((with_reducible refine gate_dst (N := 2) rfl ?_); refine box_event ?hg (N := 2) ?hd (cs := #[.int .i64 aD, .int .i64 mT]) (t := 76) ?hr ?_; (case hd => rfl); (case hg => rfl); (case hr => exact zz21); intro aE hg w11 hbox hb; have n_ := zA4 (below_step zz2 hb) hbox (zz18 : w.heap.size ≤ aE) (zz18 : w.heap.size ≤ aE); clear HB; obtain ⟨HB, aA, GW101, GE101⟩ := n_; clear hb hbox hg) | ((with_reducible refine gate_dst (N := 3) rfl ?_); refine box_event ?hg (N := 3) ?hd (cs := #[.int .i64 iI, .int .i64 qE]) (t := 76) ?hr ?_; (case hd => rfl); (case hg => rfl); (case hr => exact zz21); intro aW hg w12 hbox hb; have n_ := zA7 (blk_below (g := aE) (o := .cells #[.int .i64 aD, .int .i64 mT] 76 (0, 0)) zz1 hb) (below_step zz0 hb) hbox (zz47 : w.heap.size ≤ aW) (zz47 : w.heap.size ≤ aW) (by rw [hg]; exact Nat.ne_of_lt (blk_lt (g := aE) (o := .cells #[.int .i64 aD, .int .i64 mT] 76 (0, 0)) zz1) : aE ≠ aW) (by rw [hg]; exact Nat.ne_of_gt (blk_lt (g := aE) (o := .cells #[.int .i64 aD, .int .i64 mT] 76 (0, 0)) zz1) : aW ≠ aE); clear aA HB; obtain ⟨aA, HB, aI, GW102, GE102, cX, dL⟩ := n_; clear hb hbox hg; have sI := cX.out; have sH := dL.out; have g4 := zC20 aA; have g3 := zC21 aA; have g2 := blk_frozen aA.out 0; have gJ := blk_frozen aA.out 1; have gP := zC20 aI; have gO := zC21 aI; have gI := blk_frozen aI.out 0; have gH := blk_frozen aI.out 1) | ((with_reducible refine gate_callee (f := 98) rfl ?_); refine goesL_ (some 10) rfl rfl Try.func98 (by kernel_rfl) rfl #[.int .i64 aD, .int .i64 iI] rfl zz3 ?_; (with_reducible refine (cmp_Compare_int.calls aD iI bD _ A3.out).mono ?_); rintro e w' ⟨rfl, ⟨nd, rfl⟩⟩; refine ⟨_, rfl, ?_⟩))); go_ret; exact ⟨zz10, zz61⟩
 rw [if_pos c4] at H; have iQ : (bD == 0) = true := beq_iff_eq.mpr c4; have uX : (bD != 0) = false := bne_eq_false_iff_eq.mpr c4; clear c4; obtain ⟨fH, A50, H⟩ := zO_ H; (try dsimp only at H); have A5 := zK_ A50; clear A50; obtain rfl := Option.some.inj H; go_enter Try.func75, Try.ntmps75; (go_wp2_with (first | ((with_reducible refine gate_dst (N := 2) rfl ?_); refine box_event ?hg (N := 2) ?hd (cs := #[.int .i64 aD, .int .i64 mT]) (t := 76) ?hr ?_; (case hd => rfl); (case hg => rfl); (case hr => exact zz21); intro aE hg w6 hbox hb; have n_ := zA4 (below_step zz2 hb) hbox (zz18 : w.heap.size ≤ aE) (zz18 : w.heap.size ≤ aE); clear HB; obtain ⟨HB, aA, GW101, GE101⟩ := n_; clear hb hbox hg) | ((with_reducible refine gate_dst (N := 3) rfl ?_); refine box_event ?hg (N := 3) ?hd (cs := #[.int .i64 iI, .int .i64 qE]) (t := 76) ?hr ?_; (case hd => rfl); (case hg => rfl); (case hr => exact zz21); intro aW hg w7 hbox hb; have n_ := zA7 (blk_below (g := aE) (o := .cells #[.int .i64 aD, .int .i64 mT] 76 (0, 0)) zz1 hb) (below_step zz0 hb) hbox (zz47 : w.heap.size ≤ aW) (zz47 : w.heap.size ≤ aW) (by rw [hg]; exact Nat.ne_of_lt (blk_lt (g := aE) (o := .cells #[.int .i64 aD, .int .i64 mT] 76 (0, 0)) zz1) : aE ≠ aW) (by rw [hg]; exact Nat.ne_of_gt (blk_lt (g := aE) (o := .cells #[.int .i64 aD, .int .i64 mT] 76 (0, 0)) zz1) : aW ≠ aE); clear aA HB; obtain ⟨aA, HB, aI, GW102, GE102, cX, dL⟩ := n_; clear hb hbox hg; have RG := cX.out; have RD := dL.out; have fQ := zC20 aA; have fP := zC21 aA; have fO := blk_frozen aA.out 0; have fN := blk_frozen aA.out 1; have eF := zC20 aI; have eE := zC21 aI; have eD := blk_frozen aI.out 0; have eC := blk_frozen aI.out 1) | ((with_reducible refine gate_callee (f := 98) rfl ?_); refine goesL_ (some 10) rfl rfl Try.func98 (by kernel_rfl) rfl #[.int .i64 aD, .int .i64 iI] rfl zz3 ?_; (with_reducible refine (cmp_Compare_int.calls aD iI bD _ A3.out).mono ?_); rintro e w' ⟨rfl, ⟨nd, rfl⟩⟩; refine ⟨_, rfl, ?_⟩) | ((with_reducible refine gate_callee (f := 98) rfl ?_); refine goesL_ (some 18) rfl rfl Try.func98 (by kernel_rfl) rfl #[.int .i64 mT, .int .i64 qE] rfl zz3 ?_; (with_reducible refine (cmp_Compare_int.calls mT qE fH _ A5.out).mono ?_); rintro e w' ⟨rfl, ⟨nd, rfl⟩⟩; refine ⟨_, rfl, ?_⟩))); go_ret; exact ⟨zz10, zz61⟩
end Go.Proofs.Ytkcbinohpdhbgaa.P
end

section
namespace Go.Proofs.Ytkcbinohpdhbgaa.Cf
set_option linter.unusedVariables false
set_option linter.unusedSimpArgs false
open Go.RowKit Go.Proofs.YtkcbinohpdhbgaaW.PrintWords Go.Proofs.YtkcbinohpdhbgaaW.PrintLast Go.Proofs.YtkcbinohpdhbgaaW.PrintMore Go.Proofs.Ytkcbinohpdhbgaa.P
def cmpI (a b : Int) : Int := if a < b then -1 else if a > b then 1 else 0
theorem cmp_eq (a b : Int) : cmp_Compare_int.f a b = some (cmpI a b) := by
 unfold cmp_Compare_int.f cmp_isNaN_int.f cmpI
 simp
 split <;> (try split) <;> rfl
def cmpE (a b : E) : Int := if cmpI a.f0 b.f0 = 0 then cmpI a.f1 b.f1 else cmpI a.f0 b.f0
theorem cmpE_eq (a b : E) : impl_compareEdges.f a.f0 a.f1 b.f0 b.f1 = some (cmpE a b) := by
 unfold impl_compareEdges.f cmpE
 rw [cmp_eq, cmp_eq]
 simp only [Option.bind_some]
 split <;> rfl
theorem cmpE_lt (a b : E) : cmpE a b < 0 ↔ ¬ leE b a := by
 unfold cmpE cmpI leE
 by_cases h : a.f0 < b.f0
 ·simp [h]; try omega
 ·by_cases h2 : a.f0 > b.f0
  ·simp [h, h2]; try omega
  ·by_cases h3 : a.f1 < b.f1
   ·simp [h, h2, h3]; try omega
   ·by_cases h4 : a.f1 > b.f1
    ·simp [h, h2, h3, h4]; try omega
    ·simp [h, h2, h3, h4]; try omega
open Classical in
noncomputable def sortedB (es : List E) : Bool := decide (Sorted es)
theorem sortedB_iff {es : List E} : sortedB es = true ↔ Sorted es := by unfold sortedB; simp
def SortedFrom (es : List E) (i : Nat) : Prop := ∀ j, i ≤ j → (h : j + 1 < es.length) → leE es[j] es[j + 1]
theorem SortedFrom.all {es : List E} (h : SortedFrom es 0) : sortedB es = true := sortedB_iff.2 (fun j hj => h j (Nat.zero_le _) hj)
theorem SortedFrom.none {es : List E} {i : Nat} (h : i + 1 < es.length) (hn : ¬ leE es[i] es[i + 1]) : sortedB es = false := by
 cases hb : sortedB es with
 | false => rfl
 | true => exact absurd (sortedB_iff.1 hb i h) hn
theorem SortedFrom.down {es : List E} {i : Nat} (h : SortedFrom es (i + 1)) (hi : i + 1 < es.length) (hl : leE es[i] es[i + 1]) : SortedFrom es i := by
 intro j hj hjl
 by_cases e : j = i
 ·subst e; exact hl
 ·exact h j (by omega) hjl
theorem isf_calls (es : List E) (A : Option Addr) (c : Nat) (w : World) (hr : Kd.C k76 w A es.length es) (hc : es.length ≤ c) :
  Calls Try.prog 74 #[.slice A es.length c, .func (.func 75) #[] #[]] w fun e w' => e = .returned (.bool (sortedB es)) ∧ Below w.heap.size w w' := by
 have hlen := hr.2.1
 have HR := Aside0.mk hr
 have HL := Aside0.mk hlen
 clear hr hlen
 have HB := Aside0.mk (Below.refl w.heap.size w)
 go_enter Try.func74, Try.ntmps74
 go_wp2
 go_loopw [5] (fun v wr => ∃ i : Int, v = .int .i64 i ∧ Aside0 (-1 ≤ i ∧ i < es.length ∧ SortedFrom es i.toNat) ∧ Aside0 (Below w.heap.size w wr)) (fun v _ => (intOf v + 1).toNat)
 case atStart => exact ⟨(es.length : Int) - 1, by rw [wrap_id (by have := HL.out; omega) (by have := HL.out; omega)], ⟨by omega, by omega, fun j hj hjl => by omega⟩, HB⟩
 case round =>
  obtain ⟨i, rfl, HI, HB⟩ := hrel
  by_cases h0 : 0 < i
  ·obtain ⟨j, hij⟩ : ∃ j : Nat, i = (j : Int) + 1 := ⟨(i - 1).toNat, by omega⟩
   have hj := HI.out.2.1
   have hl := HL.out
   have hw : wrap64 (i - 1) = (j : Int) := by rw [wrap_id (by omega) (by omega)]; omega
   have p1 : 0 ≤ i := by omega
   have p2 : 0 ≤ wrap64 (i - 1) := by omega
   have q2 : wrap64 (i - 1) < (es.length : Int) := by omega
   obtain ⟨ad, e, hx0, hx1⟩ := at_T76 HR.out i p1 hj
   cases e
   obtain ⟨ad', e, hy0, hy1⟩ := at_T76 HR.out (wrap64 (i - 1)) p2 q2
   cases e
   replace hx0 := (HB.out.cell (World.block_lt_of_cell? w _ hx0)).trans hx0
   replace hx1 := (HB.out.cell (World.block_lt_of_cell? w _ hx1)).trans hx1
   replace hy0 := (HB.out.cell (World.block_lt_of_cell? w _ hy0)).trans hy0
   replace hy1 := (HB.out.cell (World.block_lt_of_cell? w _ hy1)).trans hy1
   have c0 : decide (0 < i) = true := decide_eq_true h0
   replace p1 := eq_true p1
   have q1 := eq_true hj
   replace p2 := eq_true p2
   replace q2 := eq_true q2
   have HW := Aside0.mk hw
   have HIJ := Aside0.mk hij
   clear hj hl hw hij h0
   go_wp2
   go_still_tail 10, (by kernel_rfl)
   simp only [i64_w]
   repeat still_step
   refine wpStill_nil ?_
   change wpList _ _ _ _ _ wr.drew
   have HB' := Aside0.mk (below_drew1 HB.out)
   clear HB hx0 hx1 hy0 hy1
   generalize wr.drew = w2 at HB' ⊢
   have HX := Aside0.mk (cmpE_eq (rd_T76 es i) (rd_T76 es (wrap64 (i - 1))))
   have HC := Aside0.mk (cmpE_lt (rd_T76 es i) (rd_T76 es (wrap64 (i - 1))))
   generalize cmpE (rd_T76 es i) (rd_T76 es (wrap64 (i - 1))) = z at HX HC
   have HE : Aside0 (∃ hj : j + 1 < es.length, rd_T76 es i = es[j + 1] ∧ rd_T76 es (wrap64 (i - 1)) = es[j]) := by
    have hj : j + 1 < es.length := by
     have := HI.out.2.1
     have := HIJ.out
     omega
    have e1 : i = ((j + 1 : Nat) : Int) := by have := HIJ.out; omega
    refine ⟨hj, ?_, ?_⟩
    ·rw [e1, rdE_get hj]
    ·rw [HW.out, rdE_get (by omega)]
   by_cases hz : z < 0
   ·have cz : decide (z < 0) = true := decide_eq_true hz
    have HZ := Aside0.mk hz
    clear hz
    go_wp2_with fail
    refine (impl_compareEdges.calls _ _ _ _ z _ HX.out).mono ?_
    rintro e w3 ⟨rfl, hb⟩
    go_wp2
    go_ret
    obtain ⟨hj, e1, e2⟩ := HE.out
    have hs := SortedFrom.none hj (by rw [← e1, ← e2]; exact HC.out.1 HZ.out)
    exact ⟨by rw [hs]; rfl, below_step HB'.out hb⟩
   ·have cz : decide (z < 0) = false := decide_eq_false hz
    have HZ := Aside0.mk hz
    clear hz
    go_wp2_with fail
    refine (impl_compareEdges.calls _ _ _ _ z _ HX.out).mono ?_
    rintro e w3 ⟨rfl, hb⟩
    have HB2 := Aside0.mk (below_step HB'.out hb)
    clear hb
    go_wp2
    go_roundw
    case rel =>
     have hi := HI.out
     have hw := HW.out
     have hij := HIJ.out
     refine ⟨wrap64 (i - 1), rfl, ⟨by omega, by omega, ?_⟩, HB2⟩
     obtain ⟨hj, e1, e2⟩ := HE.out
     have hle : leE es[j] es[j + 1] := by
      rw [← e1, ← e2]
      apply Classical.byContradiction
      intro hn
      have h1 := HC.out.2 hn
      have h2 := HZ.out
      omega
     rw [hw, Int.toNat_natCast]
     refine SortedFrom.down ?_ hj hle
     have := hi.2.2
     rw [hij, show ((j : Int) + 1).toNat = j + 1 by omega] at this
     exact this
    case measure =>
     have hi := HI.out
     have hw := HW.out
     have hij := HIJ.out
     simp [intOf]
     omega
  ·have c0 : decide (0 < i) = false := decide_eq_false h0
   have HZ := Aside0.mk h0
   clear h0
   go_wp2
   go_ret
   have := HI.out
   have h0 := HZ.out
   have hs : SortedFrom es i.toNat := this.2.2
   rw [show i.toNat = 0 by omega] at hs
   have ha := hs.all
   exact ⟨by rw [ha]; rfl, HB.out⟩
end Go.Proofs.Ytkcbinohpdhbgaa.Cf
end

section
namespace Go.Proofs.Ytkcbinohpdhbgaa.P
open Go.RowKit Go.Proofs.YtkcbinohpdhbgaaW.PrintWords Go.Proofs.YtkcbinohpdhbgaaW.PrintLast Go.Proofs.YtkcbinohpdhbgaaW.PrintMore
attribute [local go_sem] max2_int min2_int max_two min_two max_three min_three max_four min_four
set_option linter.unusedVariables false
set_option linter.unusedSimpArgs false
def impl_GraphOk.f (aD : Int) (aC : List (S76)) : Option Bool := some (Cf.gOk aD aC)
theorem impl_GraphOk.calls (aD : Int) (aH : Option Addr) (aG : Nat) (aC : List (S76)) (r : Bool) (w : World) (hr0_1 : Kd.C k76 w aH aC.length aC) (hc0_1 : aC.length ≤ aG) (h : impl_GraphOk.f aD aC = some r) :
  Calls Try.prog 39 #[.agg #[.int .i64 aD, .slice aH aC.length aG]] w fun e w' => e = .returned (.bool r) ∧ Below w.heap.size w w' := by
 obtain rfl := Option.some.inj h; clear h; obtain ⟨k1, hk1⟩ := (Cf.implEdges aD aC).rounds; have HR := zK_ hr0_1; have HK1 := zK_ hk1; clear hr0_1 hk1; go_enter Try.func39, Try.ntmps39; have HB := zK_ (below_alloc (Below.refl w.heap.size w) (.cells #[.int .i64 aD, .slice aH aC.length aG] 30)); have BK := zK_ (heap_alloc_new w (.cells #[.int .i64 aD, .slice aH aC.length aG] 30)); by_cases he : Cf.EsOk aD aC; rotate_left
 ·have HE := zK_ he; replace HK1 := zK_ (HK1.out.trans (congrArg some (decide_eq_false he))); clear he; (go_wp2_with fail); refine (impl_EdgesOk.calls k1 _ _ _ aC false _ (Kd.C_below HR.out HB.out) hc0_1 HK1.out).mono ?_; rintro e w1 ⟨rfl, hb⟩; have HB1 := zK_ (below_step HB.out hb); clear hb; go_wp2; go_ret
  have hg : Cf.gOk aD aC = false := by
   cases hb : Cf.gOk aD aC with
   | false => rfl
   | true => exact absurd (Cf.gOk_iff.1 hb).1 HE.out
  exact ⟨by rw [hg]; rfl, HB1.out⟩
 have HE := zK_ he; replace HK1 := zK_ (HK1.out.trans (congrArg some (decide_eq_true he))); clear he; (go_wp2_with fail); refine (impl_EdgesOk.calls k1 _ _ _ aC true _ (Kd.C_below HR.out HB.out) hc0_1 HK1.out).mono ?_; rintro e w1 ⟨rfl, hb⟩; have HB1 := zK_ (below_step HB.out hb); have AD := zK_ (blk_below BK.out hb); clear hb; have hz0 : w1.cell? ⟨w.heap.size, 0, none⟩ = some (.int .i64 aD) := (blk_cell AD.out 0).trans rfl; have hz1 : w1.cell? ⟨w.heap.size, 1, none⟩ = some (.slice aH aC.length aG) := (blk_cell AD.out 1).trans rfl; (go_wp2_with fail); have HS := zK_ (Cf.isf_calls aC aH aG w1 (Kd.C_below HR.out HB1.out) hc0_1); by_cases hs : Cf.Sorted aC; rotate_left
 ·have hsb : Cf.sortedB aC = false := by
   cases hb : Cf.sortedB aC with
   | false => rfl
   | true => exact absurd (Cf.sortedB_iff.1 hb) hs
  rw [hsb] at HS; have HSo := zK_ hs; clear hs hsb; refine HS.out.mono ?_; rintro e w2 ⟨rfl, hb⟩; have HB2 := zK_ (below_step HB1.out hb); clear hb hz0 hz1; go_wp2; go_ret
  have hg : Cf.gOk aD aC = false := by
   cases hb : Cf.gOk aD aC with
   | false => rfl
   | true => exact absurd (Cf.gOk_iff.1 hb).2.1 HSo.out
  exact ⟨by rw [hg]; rfl, HB2.out⟩
 have HSo := zK_ hs; rw [Cf.sortedB_iff.2 hs] at HS; clear hs; refine HS.out.mono ?_; rintro e w2 ⟨rfl, hb⟩; have HB2 := zK_ (below_step HB1.out hb); have Q7 := zK_ (blk_below AD.out hb); clear hb hz0 hz1; have hz0 : w2.cell? ⟨w.heap.size, 0, none⟩ = some (.int .i64 aD) := (blk_cell Q7.out 0).trans rfl; have hz1 : w2.cell? ⟨w.heap.size, 1, none⟩ = some (.slice aH aC.length aG) := (blk_cell Q7.out 1).trans rfl; (go_wp2_with fail); obtain ⟨h1, h6, hl, hes⟩ := HE.out; obtain ⟨n, rfl⟩ := Int.eq_ofNat_of_zero_le (a := aD) (by omega); obtain ⟨k2, hk2⟩ := (Cf.implConn n ⟨by omega, by omega⟩ aC (by omega) hes).rounds; refine (impl_connected.calls k2 _ _ _ aC (Cf.joinedB n aC) _ (Kd.C_below HR.out HB2.out) hc0_1 hk2).mono ?_; rintro e w3 ⟨rfl, hd⟩; have HB3 := zK_ (below_step HB2.out hd); clear hd hk2 h1 h6 hl hes
 have hg : Cf.gOk n aC = Cf.joinedB n aC := by
  rw [Bool.eq_iff_iff, Cf.gOk_iff, Cf.joinedB_iff]; exact ⟨fun h => h.2.2, fun h => ⟨HE.out, HSo.out, h⟩⟩
 have HG := zK_ hg; clear hg; generalize Cf.joinedB n aC = z at HG ⊢; cases z
 ·go_wp2; go_ret; exact ⟨by rw [HG.out]; rfl, HB3.out⟩
 ·go_wp2; go_ret; exact ⟨by rw [HG.out]; rfl, HB3.out⟩
def impl_allWithin.l0 : Nat → Int → Int → List Int → Int → Int → Option (Bool)
 | 0, _, _, _, _, _ => none
 | k + 1, x1, x2, x9, jJ, fV => if fV < jJ then (if 0 ≤ fV then (if fV < (x9.length : Int) then ((impl_within.f (rd x9 fV) x1 x2).bind fun aT => (if aT = true then (impl_allWithin.l0 k x1 x2 x9 jJ (wrap64 (fV + 1))) else (some false))) else (none)) else (none)) else (some true)
def impl_allWithin.f (k : Nat) (l0 : List Int) (a1 : Int) (a2 : Int) : Option (Bool) := impl_allWithin.l0 k a1 a2 l0 (l0.length : Int) 0
theorem impl_allWithin.mono_l : ∀ k, (∀ y0 y1 y2 y3 y4, LeO (impl_allWithin.l0 k y0 y1 y2 y3 y4) (impl_allWithin.l0 (k + 1) y0 y1 y2 y3 y4))
 | 0 => fun _ _ _ _ _ r h => by simp [impl_allWithin.l0] at h
 | k + 1 => by
  have ih0 := impl_allWithin.mono_l k
  ·intro y0 y1 y2 y3 y4
   unfold impl_allWithin.l0
   exact zm0
theorem impl_allWithin.mono : ∀ a0 a1 a2 k, LeO (impl_allWithin.f k a0 a1 a2) (impl_allWithin.f (k + 1) a0 a1 a2) := by
 intro a0 a1 a2 k; have ih0 := impl_allWithin.mono_l k; unfold impl_allWithin.f; exact zm0
theorem impl_allWithin.calls (k : Nat) (A0 : Option Addr) (c0 : Nat) (l0 : List Int) (a1 : Int) (a2 : Int) (r : Bool) (w : World) (hr0 : Kd.C (Kd.int .i64) w A0 l0.length l0) (hc0 : l0.length ≤ c0) (h : impl_allWithin.f k l0 a1 a2 = some r) :
  Calls Try.prog 50 #[.slice A0 l0.length c0, .int .i64 a1, .int .i64 a2] w fun e w' => e = .returned (.bool r) ∧ Drawn0 w w' := by
 have HR0 := zK_ hr0; have HC0 := zK_ hc0; clear hr0 hc0; have H : (impl_allWithin.l0 k a1 a2 l0 (l0.length : Int) 0) = some r := h; clear h; have H' := zK_ H; clear H; go_enter Try.func50, Try.ntmps50; go_wp2; (go_loopg [11] k (fun kq v11 w' => ∃ (aZ : Int), v11 = .int .i64 aZ ∧ Aside0 (impl_allWithin.l0 kq a1 a2 l0 (l0.length : Int) aZ = some r) ∧ Aside0 (kq ≤ k) ∧ Drawn0 w w')); case atStart => exact ⟨(0), zz6, H', ⟨Nat.le_refl _⟩, by repeat (first | exact Drawn0.refl _ | apply Drawn0.step)⟩
 case round =>
  clear H'; (try clear p2); obtain ⟨aZ, rfl, HA, HK1, ⟨m1, rfl⟩⟩ := hrel
  cases gk with
  | zero => exact absurd HA.out (by simp [impl_allWithin.l0])
  | succ k1 =>
   have H := HA.out; clear HA; simp only [impl_allWithin.l0] at H; by_cases c4 : aZ < (l0.length : Int); rotate_left
   ·rw [if_neg c4] at H; have iQ := decide_eq_false c4; clear c4; obtain rfl := Option.some.inj H; go_wp2; go_ret; exact ⟨zz6, by repeat (first | exact Drawn0.refl _ | apply Drawn0.step)⟩
   rw [if_pos c4] at H; have iQ := decide_eq_true c4; clear c4; by_cases c5 : 0 ≤ aZ; rotate_left
   ·rw [if_neg c5] at H; exact absurd H (by simp)
   rw [if_pos c5] at H; have fX := decide_eq_true c5; clear c5; by_cases c6 : aZ < (l0.length : Int); rotate_left
   ·rw [if_neg c6] at H; exact absurd H (by simp)
   rw [if_pos c6] at H; have i9 := decide_eq_true c6; clear c6; obtain ⟨aT, A70, H⟩ := zO_ H; (try dsimp only at H); have A7 := zK_ A70; clear A70; by_cases c8 : aT = true; rotate_left
   ·replace c8 := Bool.eq_false_iff.mpr c8; subst c8; rw [if_neg (show ¬ (false = true) by decide)] at H; obtain rfl := Option.some.inj H; have p101 : 0 ≤ (aZ : Int) := of_decide_eq_true zz4; have q101 : aZ < (l0.length : Int) := of_decide_eq_true zz4; obtain ⟨f9, e101, b8⟩ := Kd.at_int HR0.out aZ p101 q101; cases e101; replace p101 := eq_true p101; replace q101 := eq_true q101; (go_wp2_with (first | ((with_reducible refine gate_callee (f := 55) rfl ?_); refine goesL_ (some 18) rfl rfl Try.func55 (by kernel_rfl) rfl #[.int .i64 (rd l0 aZ), .int .i64 a1, .int .i64 a2] rfl zz3 ?_; (with_reducible refine (impl_within.calls (rd l0 aZ) a1 a2 false _ A7.out).mono ?_); rintro e w' ⟨rfl, ⟨nd, rfl⟩⟩; refine ⟨_, rfl, ?_⟩))); go_ret; exact ⟨zz6, by repeat (first | exact Drawn0.refl _ | apply Drawn0.step)⟩
   subst c8; rw [if_pos rfl] at H; have H' := zK_ H; clear H; have p101 : 0 ≤ (aZ : Int) := of_decide_eq_true zz4; have q101 : aZ < (l0.length : Int) := of_decide_eq_true zz4; obtain ⟨f9, e101, b8⟩ := Kd.at_int HR0.out aZ p101 q101; cases e101; replace p101 := eq_true p101; replace q101 := eq_true q101; (go_wp2_with (first | ((with_reducible refine gate_callee (f := 55) rfl ?_); refine goesL_ (some 18) rfl rfl Try.func55 (by kernel_rfl) rfl #[.int .i64 (rd l0 aZ), .int .i64 a1, .int .i64 a2] rfl zz3 ?_; (with_reducible refine (impl_within.calls (rd l0 aZ) a1 a2 true _ A7.out).mono ?_); rintro e w' ⟨rfl, ⟨nd, rfl⟩⟩; refine ⟨_, rfl, ?_⟩))); go_roundg k1; (case measure => have := HK1.out; omega); case rel => exact ⟨(wrap64 (aZ + 1)), zz6, H', ⟨zz99⟩, by repeat (first | exact Drawn0.refl _ | apply Drawn0.step)⟩
def impl_MatrixOk.l0 : Nat → List (List Int) → List (List Int) → Int → Int → Option (Bool)
 | 0, _, _, _, _ => none
 | k + 1, x0, x8, x9, jJ => if jJ < x9 then (if 0 ≤ jJ then (if jJ < (x8.length : Int) then (if ((rd_L3 x8 jJ).length : Int) = (x0.length : Int) then ((impl_allWithin.f k (rd_L3 x8 jJ) (-500) 500).bind fun aT => (if aT = true then (impl_MatrixOk.l0 k x0 x8 x9 (wrap64 (jJ + 1))) else (some false))) else (some false)) else (none)) else (none)) else (some true)
def impl_MatrixOk.f (k : Nat) (l0 : List (List Int)) : Option (Bool) := if (l0.length : Int) > 6 then (some false) else (impl_MatrixOk.l0 k l0 l0 (l0.length : Int) 0)
theorem impl_MatrixOk.mono_l : ∀ k, (∀ y0 y1 y2 y3, LeO (impl_MatrixOk.l0 k y0 y1 y2 y3) (impl_MatrixOk.l0 (k + 1) y0 y1 y2 y3))
 | 0 => fun _ _ _ _ r h => by simp [impl_MatrixOk.l0] at h
 | k + 1 => by
  have ih0 := impl_MatrixOk.mono_l k
  ·intro y0 y1 y2 y3
   unfold impl_MatrixOk.l0
   exact zm15
theorem impl_MatrixOk.mono : ∀ a0 k, LeO (impl_MatrixOk.f k a0) (impl_MatrixOk.f (k + 1) a0) := by
 intro a0 k; have ih0 := impl_MatrixOk.mono_l k; unfold impl_MatrixOk.f; exact zm15
theorem impl_MatrixOk.calls (k : Nat) (A0 : Option Addr) (c0 : Nat) (l0 : List (List Int)) (r : Bool) (w : World) (hr0 : Kd.C (Kd.slice 3 (Kd.int .i64)) w A0 l0.length l0) (hc0 : l0.length ≤ c0) (h : impl_MatrixOk.f k l0 = some r) :
  Calls Try.prog 77 #[.slice A0 l0.length c0] w fun e w' => e = .returned (.bool r) ∧ Drawn0 w w' := by
 have HR0 := zK_ hr0; have HC0 := zK_ hc0; clear hr0 hc0; have H : (if (l0.length : Int) > 6 then (some false) else (impl_MatrixOk.l0 k l0 l0 (l0.length : Int) 0)) = some r := h; clear h; by_cases c2 : (l0.length : Int) > 6
 ·rw [if_pos c2] at H; have nA : decide (6 < (l0.length : Int)) = true := decide_eq_true c2; have tT : decide (6 < l0.length) = true := decide_eq_true (by omega); clear c2; obtain rfl := Option.some.inj H; go_enter Try.func77, Try.ntmps77; go_wp2; go_ret; exact ⟨zz6, by repeat (first | exact Drawn0.refl _ | apply Drawn0.step)⟩
 rw [if_neg c2] at H; have nA : decide (6 < (l0.length : Int)) = false := decide_eq_false c2; have tT : decide (6 < l0.length) = false := decide_eq_false (by omega); clear c2; have H' := zK_ H; clear H; go_enter Try.func77, Try.ntmps77; go_wp2; (go_loopg [10] k (fun kq v10 w' => ∃ (cJ : Int), v10 = .int .i64 cJ ∧ Aside0 (impl_MatrixOk.l0 kq l0 l0 (l0.length : Int) cJ = some r) ∧ Aside0 (kq ≤ k) ∧ Drawn0 w w')); case atStart => exact ⟨(0), zz6, H', ⟨Nat.le_refl _⟩, by repeat (first | exact Drawn0.refl _ | apply Drawn0.step)⟩
 case round =>
  clear H'; (try clear c2); (try clear nA); (try clear tT); (try clear p2); obtain ⟨cJ, rfl, HA, HK1, ⟨m1, rfl⟩⟩ := hrel
  cases gk with
  | zero => exact absurd HA.out (by simp [impl_MatrixOk.l0])
  | succ k1 =>
   have H := HA.out; clear HA; simp only [impl_MatrixOk.l0] at H; by_cases c3 : cJ < (l0.length : Int); rotate_left
   ·rw [if_neg c3] at H; have jA := decide_eq_false c3; (try (have o1 := jA; first | rw [iT] at o1 | rw [← iT] at o1)); clear c3; obtain rfl := Option.some.inj H; go_wp2; go_ret; exact ⟨zz6, by repeat (first | exact Drawn0.refl _ | apply Drawn0.step)⟩
   rw [if_pos c3] at H; have jA := decide_eq_true c3; clear c3; by_cases c4 : 0 ≤ cJ; rotate_left
   ·rw [if_neg c4] at H; exact absurd H (by simp)
   rw [if_pos c4] at H; have iQ := decide_eq_true c4; clear c4; by_cases c5 : cJ < (l0.length : Int); rotate_left
   ·rw [if_neg c5] at H; exact absurd H (by simp)
   rw [if_pos c5] at H; have fX := decide_eq_true c5; clear c5; by_cases c6 : ((rd_L3 l0 cJ).length : Int) = (l0.length : Int); rotate_left
   ·rw [if_neg c6] at H; have i9 : (((rd_L3 l0 cJ).length : Int) == (l0.length : Int)) = false := beq_eq_false_iff_ne.mpr c6; have nX : (((rd_L3 l0 cJ).length : Int) != (l0.length : Int)) = true := bne_iff_ne.mpr c6; (have NE : ((rd_L3 l0 cJ).length == l0.length) = false := by first | simpa using c6 | (simp at c6 ⊢; omega)); obtain rfl := Option.some.inj H; have p101 : 0 ≤ (cJ : Int) := of_decide_eq_true zz4; have q101 : cJ < (l0.length : Int) := of_decide_eq_true zz4; obtain ⟨f9, A101_0, c101_0, e101, b8, iT, hi101_0⟩ := at_L3 HR0.out cJ p101 q101; cases e101; have HR101_0 := zK_ hi101_0; have HC101_0 := zK_ iT; clear hi101_0 iT; replace p101 := eq_true p101; replace q101 := eq_true q101; go_wp2; go_ret; exact ⟨zz6, by repeat (first | exact Drawn0.refl _ | apply Drawn0.step)⟩
   rw [if_pos c6] at H; have i9 : (((rd_L3 l0 cJ).length : Int) == (l0.length : Int)) = true := beq_iff_eq.mpr c6; have nX : (((rd_L3 l0 cJ).length : Int) != (l0.length : Int)) = false := bne_eq_false_iff_eq.mpr c6; (have NE : ((rd_L3 l0 cJ).length == l0.length) = true := by first | simpa using c6 | (simp at c6 ⊢; omega)); clear c6; obtain ⟨aT, A70, H⟩ := zO_ H; (try dsimp only at H); have A7 := zK_ A70; clear A70; by_cases c8 : aT = true; rotate_left
   ·replace c8 := Bool.eq_false_iff.mpr c8; subst c8; rw [if_neg (show ¬ (false = true) by decide)] at H; obtain rfl := Option.some.inj H; have p101 : 0 ≤ (cJ : Int) := of_decide_eq_true zz4; have q101 : cJ < (l0.length : Int) := of_decide_eq_true zz4; obtain ⟨f9, A101_0, c101_0, e101, b8, iT, hi101_0⟩ := at_L3 HR0.out cJ p101 q101; cases e101; have HR101_0 := zK_ hi101_0; have HC101_0 := zK_ iT; clear hi101_0 iT; replace p101 := eq_true p101; replace q101 := eq_true q101; (go_wp2_with (first | (go_at_call 50; (with_reducible refine (impl_allWithin.calls k1 _ _ (rd_L3 l0 cJ) (-500) 500 false _ ?side1 ?side2 A7.out).mono ?_); (case side1 => repeat (first | exact HR101_0.out | (with_reducible refine Kd.C_alloc ?_ _) | (with_reducible refine Kd.C_drewN ?_ _) | (with_reducible refine Kd.C_drew ?_))); (case side2 => exact HC101_0.out); rintro e w' ⟨rfl, ⟨nd, rfl⟩⟩))); go_ret; exact ⟨zz6, by repeat (first | exact Drawn0.refl _ | apply Drawn0.step)⟩
   subst c8; rw [if_pos rfl] at H; have H' := zK_ H; clear H; have p101 : 0 ≤ (cJ : Int) := of_decide_eq_true zz4; have q101 : cJ < (l0.length : Int) := of_decide_eq_true zz4; obtain ⟨f9, A101_0, c101_0, e101, b8, iT, hi101_0⟩ := at_L3 HR0.out cJ p101 q101; cases e101; have HR101_0 := zK_ hi101_0; have HC101_0 := zK_ iT; clear hi101_0 iT; replace p101 := eq_true p101; replace q101 := eq_true q101; (go_wp2_with (first | (go_at_call 50; (with_reducible refine (impl_allWithin.calls k1 _ _ (rd_L3 l0 cJ) (-500) 500 true _ ?side1 ?side2 A7.out).mono ?_); (case side1 => repeat (first | exact HR101_0.out | (with_reducible refine Kd.C_alloc ?_ _) | (with_reducible refine Kd.C_drewN ?_ _) | (with_reducible refine Kd.C_drew ?_))); (case side2 => exact HC101_0.out); rintro e w' ⟨rfl, ⟨nd, rfl⟩⟩))); go_roundg k1; (case measure => have := HK1.out; omega); case rel => exact ⟨(wrap64 (cJ + 1)), zz6, H', ⟨zz99⟩, by repeat (first | exact Drawn0.refl _ | apply Drawn0.step)⟩
def impl_bitsOf.l0 : Nat → Int → List Int → Int → Option (List Int)
 | 0, _, _, _ => none
 | k + 1, x0, x3, x4 => if 0 ≤ x4 then (if (shr .i64 x0 x4) > 0 then (if (Go.bits .and .i64 (shr .i64 x0 x4) 1) = 1 then (if x3.length < 17592186044416 then (impl_bitsOf.l0 k x0 (x3 ++ [x4]) (wrap64 (x4 + 1))) else (none)) else (impl_bitsOf.l0 k x0 x3 (wrap64 (x4 + 1)))) else (some x3)) else (none)
def impl_bitsOf.f (k : Nat) (a0 : Int) : Option (List Int) := impl_bitsOf.l0 k a0 ([] : List Int) 0
theorem impl_bitsOf.mono_l : ∀ k, (∀ y0 y1 y2, LeO (impl_bitsOf.l0 k y0 y1 y2) (impl_bitsOf.l0 (k + 1) y0 y1 y2))
 | 0 => fun _ _ _ r h => by simp [impl_bitsOf.l0] at h
 | k + 1 => by
  have ih0 := impl_bitsOf.mono_l k
  ·intro y0 y1 y2
   unfold impl_bitsOf.l0
   exact zm0
theorem impl_bitsOf.mono : ∀ a0 k, LeO (impl_bitsOf.f k a0) (impl_bitsOf.f (k + 1) a0) := by
 intro a0 k; have ih0 := impl_bitsOf.mono_l k; unfold impl_bitsOf.f; exact zm0
theorem impl_bitsOf.calls (k : Nat) (a0 : Int) (r : List Int) (w : World) (h : impl_bitsOf.f k a0 = some r) :
  Calls Try.prog 78 #[.int .i64 a0] w fun e w' => ∃ v0_ : Value, e = .returned (v0_) ∧ Kd.R (Kd.int .i64) 3 w' w.heap.size (fun _ => True) v0_ r ∧ Below w.heap.size w w' := by
 have HB := zK_ (Below.refl w.heap.size w); have H : (impl_bitsOf.l0 k a0 ([] : List Int) 0) = some r := h; clear h; have H' := zK_ H; clear H; go_enter Try.func78, Try.ntmps78; go_wp2; (go_loopg [3, 4] k (fun kq v3 v4 w' => ∃ (dF : List Int) (bQ : Int), v4 = .int .i64 bQ ∧ Aside0 (impl_bitsOf.l0 kq a0 dF bQ = some r) ∧ Aside0 (kq ≤ k) ∧ Aside0 (Kd.R (Kd.int .i64) 3 w' w.heap.size (fun _ => True) v3 dF) ∧ Aside0 (Below w.heap.size w w'))); case atStart => exact ⟨(([] : List Int)), (0), zz6, H', ⟨Nat.le_refl _⟩, ⟨zz44⟩, ⟨zz2⟩⟩
 case round =>
  clear H'; obtain ⟨dF, bQ, rfl, HA, HK1, bG, HB⟩ := hrel
  cases gk with
  | zero => exact absurd HA.out (by simp [impl_bitsOf.l0])
  | succ k1 =>
   have H := HA.out; clear HA; simp only [impl_bitsOf.l0] at H; by_cases c2 : 0 ≤ bQ; rotate_left
   ·rw [if_neg c2] at H; exact absurd H (by simp)
   rw [if_pos c2] at H; have nA := eq_true c2; have tT : decide (0 ≤ bQ) = true := decide_eq_true c2; clear c2; obtain ⟨tU, uB⟩ : ∃ j_ : Int, (shr .i64 a0 bQ) = j_ := ⟨_, rfl⟩; (replace H : (if (tU) > 0 then (if (Go.bits .and .i64 (tU) 1) = 1 then (if dF.length < 17592186044416 then (impl_bitsOf.l0 k1 a0 (dF ++ [bQ]) (wrap64 (bQ + 1))) else (none)) else (impl_bitsOf.l0 k1 a0 dF (wrap64 (bQ + 1)))) else (some dF)) = some r := by first | (rw [uB] at H; exact H) | (simp only [uB] at H ⊢; exact H)); have QF : (a0 / 2 ^ min bQ.toNat 64) = tU := uB; have QE : bQ ≤ 64 → (a0 / 2 ^ bQ.toNat) = tU := shr_small uB; by_cases c4 : (tU) > 0; rotate_left
   ·rw [if_neg c4] at H; have iQ : decide (0 < (tU)) = false := decide_eq_false c4; clear c4; obtain rfl := Option.some.inj H; go_wp2; go_ret; exact ⟨_, by first | rfl | (simp [errW_none, errW_some] <;> rfl) | (simp only [← uB]; first | rfl | (simp [errW_none, errW_some] <;> rfl)) | (simp [*, errW_none, errW_some] <;> rfl), zz33, zz2⟩
   rw [if_pos c4] at H; have iQ : decide (0 < (tU)) = true := decide_eq_true c4; clear c4; have fX := eq_true (of_decide_eq_true zz4 : 0 ≤ bQ); by_cases c7 : (Go.bits .and .i64 (tU) 1) = 1; rotate_left
   ·rw [if_neg c7] at H; have iM : ((Go.bits .and .i64 (tU) 1) == 1) = false := beq_eq_false_iff_ne.mpr c7; have tS : ((Go.bits .and .i64 (tU) 1) != 1) = true := bne_iff_ne.mpr c7; have H' := zK_ H; clear H; go_wp2; go_roundg k1; (case measure => have := HK1.out; omega); case rel => exact ⟨(dF), (wrap64 (bQ + 1)), zz6, H', ⟨zz99⟩, ⟨zz33⟩, ⟨zz2⟩⟩
   rw [if_pos c7] at H; have iM : ((Go.bits .and .i64 (tU) 1) == 1) = true := beq_iff_eq.mpr c7; have tS : ((Go.bits .and .i64 (tU) 1) != 1) = false := bne_eq_false_iff_eq.mpr c7; clear c7; by_cases c8 : dF.length < 17592186044416; rotate_left
   ·rw [if_neg c8] at H; exact absurd H (by simp)
   rw [if_pos c8] at H; have NH := zK_ c8; clear c8; obtain ⟨vW, hy_⟩ : ∃ y_ : List Int, y_ = (dF ++ [bQ]) := ⟨_, rfl⟩; (replace H : (impl_bitsOf.l0 k1 a0 vW (wrap64 (bQ + 1))) = some r := zzY); have vJ := zK_ hy_; clear hy_; have H' := zK_ H; clear H; (go_wp2_with (first | ((with_reducible refine gate_builtin (b := .append) (xs := #[.tmp 16, .tmp 18]) rfl ?_); at_builtin; refine Kd.R_append (Kd.int .i64) (w0 := w) w.heap.size rfl (.tmp 16) (.tmp 18) 26 3 (.int .i64 0) 8 rfl Try.underlying26 info3 rfl (by decide) (by omega) u3 dF bQ [.int .i64 bQ] (fun _ => True) (fun _ => False) rfl rfl ?aP (fun _ hk => hk.elim) ?aF ?aO ?aB ?aS ?aL ?_; (case aP => exact rfl); (case aB => exact zz2); (case aF => exact (fun _ _ => trivial)); (case aO => exact zz33); (case aS => exact (below_size zz2)); (case aL => have := NH.out; omega); intro v102 w9 ho hb hg hat; rw [← vJ.out] at ho; have n_ := zA2 hb ho; clear HB bG; obtain ⟨HB, nF⟩ := n_; clear ho hb hg hat))); go_roundg k1; (case measure => have := HK1.out; omega); case rel => exact ⟨(vW), (wrap64 (bQ + 1)), zz6, H', ⟨zz99⟩, ⟨by (with_reducible repeat (first | apply Kd.R_alloc | apply Kd.R_drewN | apply Kd.R_drew)); exact nF.out⟩, ⟨zz2⟩⟩
def impl_magnitude.f (a0 : Int) : Option (Int) := some (mx a0 (wrap64 (-a0)))
theorem impl_magnitude.calls (a0 : Int) (r : Int) (w : World) (h : impl_magnitude.f a0 = some r) :
  Calls Try.prog 99 #[.int .i64 a0] w fun e w' => e = .returned (.int .i64 r) ∧ Below w.heap.size w w' := by
 have HB := zK_ (Below.refl w.heap.size w); have H : (some (mx a0 (wrap64 (-a0)))) = some r := h; clear h; obtain ⟨NU, wB⟩ : ∃ j_ : Int, (mx a0 (wrap64 (-a0))) = j_ := ⟨_, rfl⟩; (replace H : (some NU) = some r := by first | (rw [wB] at H; exact H) | (simp only [wB] at H ⊢; exact H)); have QG : (if a0 < (wrap64 (-a0)) then (wrap64 (-a0)) else a0) = NU := wB; obtain rfl := Option.some.inj H; go_enter Try.func99, Try.ntmps99; go_wp2; go_ret; exact ⟨by first | rfl | (simp [errW_none, errW_some] <;> rfl) | (simp only [← wB]; first | rfl | (simp [errW_none, errW_some] <;> rfl)) | (simp [*, errW_none, errW_some] <;> rfl), zz2⟩
def impl_divisor.l0 : Nat → Int → Int → Option (Int)
 | 0, _, _ => none
 | k + 1, x0, x1 => if x1 = 0 then ((impl_magnitude.f x0).bind fun bH => (some bH)) else (impl_divisor.l0 k x1 (Int.tmod x0 x1))
def impl_divisor.f (k : Nat) (a0 : Int) (a1 : Int) : Option (Int) := impl_divisor.l0 k a0 a1
theorem impl_divisor.mono_l : ∀ k, (∀ y0 y1, LeO (impl_divisor.l0 k y0 y1) (impl_divisor.l0 (k + 1) y0 y1))
 | 0 => fun _ _ r h => by simp [impl_divisor.l0] at h
 | k + 1 => by
  have ih0 := impl_divisor.mono_l k
  ·intro y0 y1
   unfold impl_divisor.l0
   exact zm0
theorem impl_divisor.mono : ∀ a0 a1 k, LeO (impl_divisor.f k a0 a1) (impl_divisor.f (k + 1) a0 a1) := by
 intro a0 a1 k; have ih0 := impl_divisor.mono_l k; unfold impl_divisor.f; exact zm0
theorem impl_divisor.calls (k : Nat) (a0 : Int) (a1 : Int) (r : Int) (w : World) (h : impl_divisor.f k a0 a1 = some r) :
  Calls Try.prog 79 #[.int .i64 a0, .int .i64 a1] w fun e w' => e = .returned (.int .i64 r) ∧ Below w.heap.size w w' := by
 have HB := zK_ (Below.refl w.heap.size w); have H : (impl_divisor.l0 k a0 a1) = some r := h; clear h; have H' := zK_ H; clear H; go_enter Try.func79, Try.ntmps79; go_wp2; (repeat (go_quiet (fail); try go_wp2)); (go_loopg [0, 1] k (fun kq v0 v1 w' => ∃ (rN : Int) (eO : Int), v0 = .int .i64 rN ∧ v1 = .int .i64 eO ∧ Aside0 (impl_divisor.l0 kq rN eO = some r) ∧ Aside0 (kq ≤ k) ∧ Aside0 (Below w.heap.size w w'))); case atStart => exact ⟨(a0), (a1), zz6, zz6, H', ⟨Nat.le_refl _⟩, ⟨zz2⟩⟩
 case round =>
  clear H'; (try clear p2); obtain ⟨rN, eO, rfl, rfl, HA, HK1, HB⟩ := hrel
  cases gk with
  | zero => exact absurd HA.out (by simp [impl_divisor.l0])
  | succ k1 =>
   have H := HA.out; clear HA; simp only [impl_divisor.l0] at H; by_cases c3 : eO = 0; rotate_left
   ·rw [if_neg c3] at H; have jA : (eO == 0) = false := beq_eq_false_iff_ne.mpr c3; have xN : (eO != 0) = true := bne_iff_ne.mpr c3; have H' := zK_ H; clear H; go_wp2; (repeat (go_quiet (fail); try go_wp2)); go_roundg k1; (case measure => have := HK1.out; omega); case rel => exact ⟨(eO), (Int.tmod rN eO), zz6, zz6, H', ⟨zz99⟩, ⟨zz2⟩⟩
   rw [if_pos c3] at H; have jA : (eO == 0) = true := beq_iff_eq.mpr c3; have xN : (eO != 0) = false := bne_eq_false_iff_eq.mpr c3; clear c3; obtain ⟨bH, A40, H⟩ := zO_ H; (try dsimp only at H); have A4 := zK_ A40; clear A40; obtain rfl := Option.some.inj H; (go_wp2_with (first | (go_at_call 99; (with_reducible refine (impl_magnitude.calls rN bH _ A4.out).mono ?_); rintro e w5 ⟨rfl, hb⟩; replace HB := zK_ (below_step zz2 hb); (try clear hb); (try clear hb2); (try clear hk); (try clear hi)))); (repeat (go_quiet (first | (go_at_call 99; (with_reducible refine (impl_magnitude.calls rN bH _ A4.out).mono ?_); rintro e w5 ⟨rfl, hb⟩; replace HB := zK_ (below_step zz2 hb); (try clear hb); (try clear hb2); (try clear hk); (try clear hi))); try go_wp2_with (first | (go_at_call 99; (with_reducible refine (impl_magnitude.calls rN bH _ A4.out).mono ?_); rintro e w5 ⟨rfl, hb⟩; replace HB := zK_ (below_step zz2 hb); (try clear hb); (try clear hb2); (try clear hk); (try clear hi))))); go_ret; exact ⟨zz10, zz2⟩
mutual
def impl_determinant.l0 : Nat → List (List Int) → List Int → Int → Int → Int → List Int → Int → Int → Option (Int)
 | 0, _, _, _, _, _, _, _, _ => none
 | k + 1, x0, x1, x2, x7, x8, qI, yU, qH => if qH < yU then (if 0 ≤ qH then (if qH < (qI.length : Int) then (if (Go.bits .and .i64 (shr .i64 x2 qH) 1) = 0 then (impl_determinant.l0 k x0 x1 x2 x7 x8 qI yU (wrap64 (qH + 1))) else (if (rd qI qH) = 0 then (impl_determinant.l0 k x0 x1 x2 x7 (wrap64 (-x8)) qI yU (wrap64 (qH + 1))) else (if 1 ≤ (x1.length : Int) then ((impl_determinant.f k x0 (x1.drop 1) (Go.bits .andNot .i64 x2 (shl .i64 1 qH))).bind fun cM => (impl_determinant.l0 k x0 x1 x2 (wrap64 (x7 + (wrap64 ((wrap64 (x8 * (rd qI qH))) * cM)))) (wrap64 (-x8)) qI yU (wrap64 (qH + 1)))) else (none)))) else (none)) else (none)) else (some x7)
def impl_determinant.f : Nat → List (List Int) → List Int → Int → Option (Int)
 | 0, _, _, _ => none
 | k + 1, l0, l1, a2 => if (l1.length : Int) = 0 then (some 1) else (if 0 < (l1.length : Int) then (if 0 ≤ (rd l1 0) then (if (rd l1 0) < (l0.length : Int) then (impl_determinant.l0 k l0 l1 a2 0 1 (rd_L3 l0 (rd l1 0)) ((rd_L3 l0 (rd l1 0)).length : Int) 0) else (none)) else (none)) else (none))
end
theorem impl_determinant.mono_l : ∀ k, (∀ y0 y1 y2, LeO (impl_determinant.f k y0 y1 y2) (impl_determinant.f (k + 1) y0 y1 y2)) ∧ (∀ y0 y1 y2 y3 y4 y5 y6 y7, LeO (impl_determinant.l0 k y0 y1 y2 y3 y4 y5 y6 y7) (impl_determinant.l0 (k + 1) y0 y1 y2 y3 y4 y5 y6 y7))
 | 0 => ⟨fun _ _ _ r h => by simp [impl_determinant.f] at h, fun _ _ _ _ _ _ _ _ r h => by simp [impl_determinant.l0] at h⟩
 | k + 1 => by
  obtain ⟨ih0, ih1⟩ := impl_determinant.mono_l k
  refine ⟨?_, ?_⟩
  ·intro y0 y1 y2
   unfold impl_determinant.f
   exact zm1
  ·intro y0 y1 y2 y3 y4 y5 y6 y7
   unfold impl_determinant.l0
   exact zm1
theorem impl_determinant.mono : ∀ a0 a1 a2 k, LeO (impl_determinant.f k a0 a1 a2) (impl_determinant.f (k + 1) a0 a1 a2) := by
 intro a0 a1 a2 k; obtain ⟨ih0, ih1⟩ := impl_determinant.mono_l k; exact ih0 a0 a1 a2
def impl_determinant.T9 : Bool × List (List Nat × List Nat) := (true, [([], []), ([], []), ([], []), ([1, 2], [1, 2]), ([], []), ([], []), ([5], [5]), ([], []), ([], []), ([8], [8]), ([7, 9], [7, 9]), ([4, 6, 10], [4, 6, 10]), ([3, 11], [3, 11]), ([0, 12], [0, 12]), ([13, 11, 0, 1, 2, 3, 4, 5, 6, 7, 8, 9, 10, 11, 12, 13], [0, 13])])
def impl_determinant.B9 : List Nat := [0, 0, 0, 6, 0, 0, 32, 0, 0, 256, 896, 2032, 4094, 8191, 16383]
theorem impl_determinant.tab9 : rtab .any (opsOf Try.f80 9) = impl_determinant.T9 := by kernel_rfl
theorem impl_determinant.bits9 : waitsOk impl_determinant.T9.2 impl_determinant.B9 = true := by kernel_rfl
theorem impl_determinant.calls (k : Nat) : ∀ (A0 : Option Addr) (c0 : Nat) (l0 : List (List Int)) (A1 : Option Addr) (c1 : Nat) (l1 : List Int) (a2 : Int) (r : Int) (w : World) (hr0 : Kd.C (Kd.slice 3 (Kd.int .i64)) w A0 l0.length l0) (hc0 : l0.length ≤ c0) (hr1 : Kd.C (Kd.int .i64) w A1 l1.length l1) (hc1 : l1.length ≤ c1) (h : impl_determinant.f k l0 l1 a2 = some r),
  Calls Try.prog 80 #[.slice A0 l0.length c0, .slice A1 l1.length c1, .int .i64 a2] w fun e w' => e = .returned (.int .i64 r) ∧ Below w.heap.size w w' := by
 induction k using Nat.strongRecOn with
 | _ k ih =>
 intro A0 c0 l0 A1 c1 l1 a2 r w hr0 hc0 hr1 hc1 h
 cases k with
 | zero => exact absurd h (by simp [impl_determinant.f])
 | succ k =>
 simp only [impl_determinant.f] at h; have HR0 := zK_ hr0; have HC0 := zK_ hc0; clear hr0 hc0; have HR1 := zK_ hr1; have HC1 := zK_ hc1; clear hr1 hc1; have HB := zK_ (Below.refl w.heap.size w); have H : (if (l1.length : Int) = 0 then (some 1) else (if 0 < (l1.length : Int) then (if 0 ≤ (rd l1 0) then (if (rd l1 0) < (l0.length : Int) then (impl_determinant.l0 k l0 l1 a2 0 1 (rd_L3 l0 (rd l1 0)) ((rd_L3 l0 (rd l1 0)).length : Int) 0) else (none)) else (none)) else (none))) = some r := h; clear h; by_cases c4 : (l1.length : Int) = 0
 ·rw [if_pos c4] at H; have iQ : ((l1.length : Int) == 0) = true := beq_iff_eq.mpr c4; have uX : ((l1.length : Int) != 0) = false := bne_eq_false_iff_eq.mpr c4; clear c4; obtain rfl := Option.some.inj H; go_enter Try.func80, Try.ntmps80; go_wp2; go_ret; exact ⟨zz10, zz2⟩
 rw [if_neg c4] at H; have iQ : ((l1.length : Int) == 0) = false := beq_eq_false_iff_ne.mpr c4; have uX : ((l1.length : Int) != 0) = true := bne_iff_ne.mpr c4; (have NF : ¬ (l1 = []) := fun h_ => c4 (by rw [h_]; rfl)); by_cases c5 : 0 < (l1.length : Int); rotate_left
 ·rw [if_neg c5] at H; exact absurd H (by simp)
 rw [if_pos c5] at H; have fX := decide_eq_true c5; have qC : decide (0 < l1.length) = true := decide_eq_true (by omega); clear c5; by_cases c6 : 0 ≤ (rd l1 0); rotate_left
 ·rw [if_neg c6] at H; exact absurd H (by simp)
 rw [if_pos c6] at H; have i9 := decide_eq_true c6; clear c6; by_cases c7 : (rd l1 0) < (l0.length : Int); rotate_left
 ·rw [if_neg c7] at H; exact absurd H (by simp)
 rw [if_pos c7] at H; have iM := decide_eq_true c7; clear c7; have H' := zK_ H; clear H; have p101 : 0 ≤ (0 : Int) := (by omega); have q101 : 0 < (l1.length : Int) := of_decide_eq_true zz4; obtain ⟨f9, e101, b8⟩ := Kd.at_int HR1.out 0 p101 q101; cases e101; have qi101 : (0 < l1.length) = True := eq_true (by omega); (try rw [show ((0 : Int)).toNat = 0 from rfl] at b8); (try rw [Addr.add_zero'] at b8); replace p101 := eq_true p101; replace q101 := eq_true q101; have p102 : 0 ≤ ((rd l1 0) : Int) := of_decide_eq_true zz4; have q102 : (rd l1 0) < (l0.length : Int) := of_decide_eq_true zz4; obtain ⟨eS, A102_0, c102_0, e102, cZ, jV, hi102_0⟩ := at_L3 HR0.out (rd l1 0) p102 q102; cases e102; have HR102_0 := zK_ hi102_0; have HC102_0 := zK_ jV; clear hi102_0 jV; replace p102 := eq_true p102; replace q102 := eq_true q102; go_enter Try.func80, Try.ntmps80; go_wp2; (go_loopg [7, 8, 21] k (fun kq v7 v8 v21 w' => ∃ (dA : Int) (cD : Int) (dB : Int), v7 = .int .i64 dA ∧ v8 = .int .i64 cD ∧ v21 = .int .i64 dB ∧ Aside0 (impl_determinant.l0 kq l0 l1 a2 dA cD (rd_L3 l0 (rd l1 0)) ((rd_L3 l0 (rd l1 0)).length : Int) dB = some r) ∧ Aside0 (kq ≤ k) ∧ Aside0 (Below w.heap.size w w'))); case atStart => exact ⟨(0), (1), (0), zz6, zz6, zz6, H', ⟨Nat.le_refl _⟩, ⟨zz2⟩⟩
 case round =>
  clear H'; (try clear c1); (try clear p1); (try clear q1); (try clear hx1); (try clear qi1); (try clear p2); (try clear c4); (try clear iQ); (try clear uX); (try clear NF); (try clear c5); (try clear fX); (try clear qC); (try clear c6); (try clear i9); (try clear c7); (try clear iM); (try clear b8); (try clear cZ); (try clear p101); (try clear p102); (try clear q101); (try clear q102); obtain ⟨dA, cD, dB, rfl, rfl, rfl, HA, HK1, HB⟩ := hrel
  cases gk with
  | zero => exact absurd HA.out (by simp [impl_determinant.l0])
  | succ k1 =>
   have H := HA.out; clear HA; simp only [impl_determinant.l0] at H; by_cases c8 : dB < ((rd_L3 l0 (rd l1 0)).length : Int); rotate_left
   ·rw [if_neg c8] at H; have gV := decide_eq_false c8; (try (have kR := gV; first | rw [jV] at kR | rw [← jV] at kR)); clear c8; obtain rfl := Option.some.inj H; go_wp2; go_ret; exact ⟨zz10, zz2⟩
   rw [if_pos c8] at H; have gV := decide_eq_true c8; (try (have kR := gV; first | rw [jV] at kR | rw [← jV] at kR)); clear c8; by_cases c9 : 0 ≤ dB; rotate_left
   ·rw [if_neg c9] at H; exact absurd H (by simp)
   rw [if_pos c9] at H; have lA := decide_eq_true c9; clear c9; by_cases c10 : dB < ((rd_L3 l0 (rd l1 0)).length : Int); rotate_left
   ·rw [if_neg c10] at H; exact absurd H (by simp)
   rw [if_pos c10] at H; have g6 := decide_eq_true c10; (try (have oO := g6; first | rw [jV] at oO | rw [← jV] at oO)); clear c10; have nP := eq_true (of_decide_eq_true zz4 : 0 ≤ dB); obtain ⟨cE, mI⟩ : ∃ j_ : Int, (shr .i64 a2 dB) = j_ := ⟨_, rfl⟩; (replace H : (if (Go.bits .and .i64 (cE) 1) = 0 then (impl_determinant.l0 k1 l0 l1 a2 dA cD (rd_L3 l0 (rd l1 0)) ((rd_L3 l0 (rd l1 0)).length : Int) (wrap64 (dB + 1))) else (if (rd (rd_L3 l0 (rd l1 0)) dB) = 0 then (impl_determinant.l0 k1 l0 l1 a2 dA (wrap64 (-cD)) (rd_L3 l0 (rd l1 0)) ((rd_L3 l0 (rd l1 0)).length : Int) (wrap64 (dB + 1))) else (if 1 ≤ (l1.length : Int) then ((impl_determinant.f k1 l0 (l1.drop 1) (Go.bits .andNot .i64 a2 (shl .i64 1 dB))).bind fun cM => (impl_determinant.l0 k1 l0 l1 a2 (wrap64 (dA + (wrap64 ((wrap64 (cD * (rd (rd_L3 l0 (rd l1 0)) dB))) * cM)))) (wrap64 (-cD)) (rd_L3 l0 (rd l1 0)) ((rd_L3 l0 (rd l1 0)).length : Int) (wrap64 (dB + 1)))) else (none)))) = some r := by first | (rw [mI] at H; exact H) | (simp only [mI] at H ⊢; exact H)); have MI : (a2 / 2 ^ min dB.toNat 64) = cE := mI; have MG : dB ≤ 64 → (a2 / 2 ^ dB.toNat) = cE := shr_small mI; by_cases c13 : (Go.bits .and .i64 (cE) 1) = 0
   ·rw [if_pos c13] at H; have kE : ((Go.bits .and .i64 (cE) 1) == 0) = true := beq_iff_eq.mpr c13; have rB : ((Go.bits .and .i64 (cE) 1) != 0) = false := bne_eq_false_iff_eq.mpr c13; clear c13; have H' := zK_ H; clear H; have p103 : 0 ≤ (dB : Int) := of_decide_eq_true zz4; have q103 : dB < ((rd_L3 l0 (rd l1 0)).length : Int) := of_decide_eq_true zz4; obtain ⟨bZ, e103, bL⟩ := Kd.at_int HR102_0.out dB p103 q103; cases e103; replace bL := (HB.out.cell (World.block_lt_of_cell? w _ bL)).trans bL; replace p103 := eq_true p103; replace q103 := eq_true q103; go_wp2; go_roundg k1; (case measure => have := HK1.out; omega); case rel => exact ⟨(dA), (cD), (wrap64 (dB + 1)), zz6, zz6, zz6, H', ⟨zz99⟩, ⟨zz2⟩⟩
   rw [if_neg c13] at H; have kE : ((Go.bits .and .i64 (cE) 1) == 0) = false := beq_eq_false_iff_ne.mpr c13; have rB : ((Go.bits .and .i64 (cE) 1) != 0) = true := bne_iff_ne.mpr c13; by_cases c14 : (rd (rd_L3 l0 (rd l1 0)) dB) = 0
   ·rw [if_pos c14] at H; have jB : ((rd (rd_L3 l0 (rd l1 0)) dB) == 0) = true := beq_iff_eq.mpr c14; have FL : ((rd (rd_L3 l0 (rd l1 0)) dB) != 0) = false := bne_eq_false_iff_eq.mpr c14; clear c14; have H' := zK_ H; clear H; have p103 : 0 ≤ (dB : Int) := of_decide_eq_true zz4; have q103 : dB < ((rd_L3 l0 (rd l1 0)).length : Int) := of_decide_eq_true zz4; obtain ⟨bZ, e103, bL⟩ := Kd.at_int HR102_0.out dB p103 q103; cases e103; replace bL := (HB.out.cell (World.block_lt_of_cell? w _ bL)).trans bL; replace p103 := eq_true p103; replace q103 := eq_true q103; go_wp2; go_roundg k1; (case measure => have := HK1.out; omega); case rel => exact ⟨(dA), (wrap64 (-cD)), (wrap64 (dB + 1)), zz6, zz6, zz6, H', ⟨zz99⟩, ⟨zz2⟩⟩
   rw [if_neg c14] at H; have jB : ((rd (rd_L3 l0 (rd l1 0)) dB) == 0) = false := beq_eq_false_iff_ne.mpr c14; have FL : ((rd (rd_L3 l0 (rd l1 0)) dB) != 0) = true := bne_iff_ne.mpr c14; by_cases c15 : 1 ≤ (l1.length : Int); rotate_left
   ·rw [if_neg c15] at H; exact absurd H (by simp)
   rw [if_pos c15] at H; have i6 := eq_true c15; have Q1 : decide (1 ≤ (l1.length : Int)) = true := decide_eq_true c15; clear c15; have kD := eq_true (of_decide_eq_true zz4 : 0 ≤ dB); obtain ⟨i5, jY⟩ : ∃ j_ : Int, (shl .i64 1 dB) = j_ := ⟨_, rfl⟩; (replace H : ((impl_determinant.f k1 l0 (l1.drop 1) (Go.bits .andNot .i64 a2 (i5))).bind fun cM => (impl_determinant.l0 k1 l0 l1 a2 (wrap64 (dA + (wrap64 ((wrap64 (cD * (rd (rd_L3 l0 (rd l1 0)) dB))) * cM)))) (wrap64 (-cD)) (rd_L3 l0 (rd l1 0)) ((rd_L3 l0 (rd l1 0)).length : Int) (wrap64 (dB + 1)))) = some r := by first | (rw [jY] at H; exact H) | (simp only [jY] at H ⊢; exact H)); have pC : (IntKind.i64.wrap (1 * 2 ^ min dB.toNat 64)) = i5 := jY; have rT : dB ≤ 64 → (IntKind.i64.wrap (1 * 2 ^ dB.toNat)) = i5 := shl_small jY; (have MB : (IntKind.i64.wrap (2 ^ min dB.toNat 64)) = i5 := by have h_ := pC; rw [Int.one_mul] at h_; exact h_); (have MA : dB ≤ 64 → (IntKind.i64.wrap (2 ^ dB.toNat)) = i5 := fun hle_ => by have h_ := rT hle_; rw [Int.one_mul] at h_; exact h_); have L8 : (wrap64 (1 * 2 ^ min dB.toNat 64)) = i5 := (i64_w _).symm.trans pC; (have L9 : dB ≤ 64 → (wrap64 (1 * 2 ^ dB.toNat)) = i5 := fun h_ => (i64_w _).symm.trans (rT h_)); obtain ⟨cM, A180, H⟩ := zO_ H; (try dsimp only at H); have A18 := zK_ A180; clear A180; have H' := zK_ H; clear H; have p103 : 0 ≤ (dB : Int) := of_decide_eq_true zz4; have q103 : dB < ((rd_L3 l0 (rd l1 0)).length : Int) := of_decide_eq_true zz4; obtain ⟨bZ, e103, bL⟩ := Kd.at_int HR102_0.out dB p103 q103; cases e103; replace bL := (HB.out.cell (World.block_lt_of_cell? w _ bL)).trans bL; replace p103 := eq_true p103; replace q103 := eq_true q103; (try go_wp2); replace HB := zK_ (below_drew1 HB.out); obtain ⟨i020, hi020, _, hsz20, _⟩ := info_parts info3; obtain ⟨A20, hcut20, hA20, hC20⟩ := print_drop_of (P := Try.prog) (Value.int .i64) 0 26 3 .i64 Try.underlying26 hi020 hsz20 (some f9) c1 l1 1 (by omega) (of_decide_eq_true zz4) HC1.out; have HR104 := zK_ (Kd.C_of_reads (h1 := fun _ => rfl) (hA20 _ (Kd.reads_of_C HR1.out))); have HC104 := zK_ hC20; clear hA20 hC20 hi020 hsz20; refine start_ (n := 15) (S := fun w' => True) (ds := []) (zM 15 0) (by kernel_rfl) rfl rfl trivial (fun hHeld => ?_); refine with_tabW impl_determinant.tab9 impl_determinant.bits9 (fun HT_ HW_ => ?_); generalize wr.drew = w19 at HB HR104 hHeld ⊢; refine zQ 0 33 (zM 15 1) ?_
   refine zQ 1 34 (zM 15 3) ?_
   refine zQ 2 35 (zM 15 7) ?_
   refine zQ 3 36 (zM 15 15) ?_
   refine zQ 4 37 (zM 15 31) ?_
   refine zQ 5 38 (zM 15 63) ?_
   refine zQ 6 39 (zM 15 127) ?_
   refine zQ 7 40 (zM 15 255) ?_
   refine zQ 8 41 (zM 15 511) ?_
   refine zQ 9 42 (zM 15 1023) ?_
   refine zQ 10 43 (zM 15 2047) ?_
   refine one_ (i := 11) (N := some 44) (zM 15 4095) rfl rfl (one_of HT_.out (by kernel_rfl)) (by decide) (fun K hK => ?_); refine goes_ Try.func80 (by kernel_rfl) rfl #[.slice (some eS) l0.length c0, .slice A20 (l1.drop 1).length (c1 - 1), .int .i64 (Go.bits .andNot .i64 a2 (i5))] (by rfl) rfl rfl (by (try simp only [List.map_toArray, List.map_cons, List.map_nil]); first | done | (rw [show (l1.drop 1).length = (l1.length - 1) from List.length_drop] <;> rfl) | (simp only [jY]; rfl) | rfl | (simp only [List.length_drop, List.length_take]; rfl)) ?_; (with_reducible refine (ih k1 (by have := HK1.out; omega) _ _ l0 _ _ (l1.drop 1) (Go.bits .andNot .i64 a2 (i5)) cM _ ?side1 ?side2 ?side3 ?side4 A18.out).mono ?_); (case side1 => exact zz63); (case side2 => exact HC0.out); (case side3 => repeat (first | exact (Kd.C_below HR104.out HB.out) | (with_reducible refine Kd.C_alloc ?_ _) | (with_reducible refine Kd.C_drewN ?_ _) | (with_reducible refine Kd.C_drew ?_))); (case side4 => exact HC104.out); rintro e w21 ⟨rfl, hb⟩; refine ⟨_, rfl, ?_⟩; replace HB := zK_ (below_step zz2 hb); clear hb; refine hK.out _ _ trivial (fun hHeld => ?_); clear hK K; refine norm_ (a' := ?_) ?_ ?_; rotate_left
   ·show Act.put _ (some 44) _ = _; exact zzS
   refine zQ 12 45 (zM 15 8191) ?_
   refine zQ 13 46 (zM 15 16383) ?_
   refine zQ 14 7 (zM 15 32767) ?_
   refine done_ (done_of HT_.out (by kernel_rfl)) ?_; (try go_wp2); go_roundg k1; (case measure => have := HK1.out; omega); case rel => exact ⟨(wrap64 (dA + (wrap64 ((wrap64 (cD * (rd (rd_L3 l0 (rd l1 0)) dB))) * cM)))), (wrap64 (-cD)), (wrap64 (dB + 1)), zz6, zz6, zz6, H', ⟨zz99⟩, ⟨zz2⟩⟩
end Go.Proofs.Ytkcbinohpdhbgaa.P
end

section
namespace Go.Proofs.Ytkcbinohpdhbgaa.P
open Go.RowKit Go.Proofs.YtkcbinohpdhbgaaW.PrintWords Go.Proofs.YtkcbinohpdhbgaaW.PrintLast Go.Proofs.YtkcbinohpdhbgaaW.PrintMore
attribute [local go_sem] max2_int min2_int max_two min_two max_three min_three max_four min_four
set_option linter.unusedVariables false
set_option linter.unusedSimpArgs false
mutual
def impl_InvariantFactors.j0 : Nat → List (List Int) → Bool → Option (List Int)
 | 0, _, _ => none
 | k + 1, x0, nU => if nU = true then (some ([] : List Int)) else (if 0 ≤ (wrap64 ((x0.length : Int) + 1)) then (if (wrap64 ((x0.length : Int) + 1) : Int).toNat ≤ 35184372088832 then (impl_InvariantFactors.l0 k x0 (List.replicate (wrap64 ((x0.length : Int) + 1) : Int).toNat 0) 0) else (none)) else (none))
def impl_InvariantFactors.l0 : Nat → List (List Int) → List Int → Int → Option (List Int)
 | 0, _, _, _ => none
 | k + 1, x0, x3, x4 => if x4 < (shl .i64 1 (x0.length : Int)) then ((impl_bitsOf.f k x4).bind fun cM => (impl_InvariantFactors.l1 k x0 x3 x4 cM 0)) else (impl_InvariantFactors.l2 k x3 ([] : List Int) (x0.length : Int) 0)
def impl_InvariantFactors.l1 : Nat → List (List Int) → List Int → Int → List Int → Int → Option (List Int)
 | 0, _, _, _, _, _ => none
 | k + 1, x0, x3, x4, x5, x6 => if x6 < (shl .i64 1 (x0.length : Int)) then ((impl_bitsOf.f k x6).bind fun d9 => (if (d9.length : Int) = (x5.length : Int) then (if 0 ≤ (x5.length : Int) then (if (x5.length : Int) < (x3.length : Int) then ((impl_determinant.f k x0 x5 x6).bind fun fE => ((impl_divisor.f k (rd x3 (x5.length : Int)) fE).bind fun fD => (impl_InvariantFactors.l1 k x0 (x3.set ((x5.length : Int) : Int).toNat fD) x4 x5 (wrap64 (x6 + 1))))) else (none)) else (none)) else (impl_InvariantFactors.l1 k x0 x3 x4 x5 (wrap64 (x6 + 1))))) else (impl_InvariantFactors.l0 k x0 x3 (wrap64 (x4 + 1)))
def impl_InvariantFactors.l2 : Nat → List Int → List Int → Int → Int → Option (List Int)
 | 0, _, _, _, _ => none
 | k + 1, x3, x7, JF, tW => if tW < JF then (if 0 ≤ (wrap64 (tW + 1)) then (if (wrap64 (tW + 1)) < (x3.length : Int) then (if (rd x3 (wrap64 (tW + 1))) = 0 then (if x7.length < 17592186044416 then (impl_InvariantFactors.l2 k x3 (x7 ++ [0]) JF (wrap64 (tW + 1))) else (none)) else (if 0 ≤ tW then (if tW < (x3.length : Int) then (if (rd x3 tW) = 0 then (none) else (if x7.length < 17592186044416 then (impl_InvariantFactors.l2 k x3 (x7 ++ [wrap64 (Int.tdiv (rd x3 (wrap64 (tW + 1))) (rd x3 tW))]) JF (wrap64 (tW + 1))) else (none))) else (none)) else (none))) else (none)) else (none)) else (some x7)
end
def impl_InvariantFactors.f (k : Nat) (l0 : List (List Int)) : Option (List Int) := (impl_MatrixOk.f k l0).bind fun bH => (if bH = true then (impl_InvariantFactors.j0 k l0 ((l0.length : Int) == 0)) else (impl_InvariantFactors.j0 k l0 true))
theorem impl_InvariantFactors.mono_l : ∀ k, (∀ y0 y1, LeO (impl_InvariantFactors.j0 k y0 y1) (impl_InvariantFactors.j0 (k + 1) y0 y1)) ∧ (∀ y0 y1 y2, LeO (impl_InvariantFactors.l0 k y0 y1 y2) (impl_InvariantFactors.l0 (k + 1) y0 y1 y2)) ∧ (∀ y0 y1 y2 y3 y4, LeO (impl_InvariantFactors.l1 k y0 y1 y2 y3 y4) (impl_InvariantFactors.l1 (k + 1) y0 y1 y2 y3 y4)) ∧ (∀ y0 y1 y2 y3, LeO (impl_InvariantFactors.l2 k y0 y1 y2 y3) (impl_InvariantFactors.l2 (k + 1) y0 y1 y2 y3))
 | 0 => ⟨fun _ _ r h => by simp [impl_InvariantFactors.j0] at h, fun _ _ _ r h => by simp [impl_InvariantFactors.l0] at h, fun _ _ _ _ _ r h => by simp [impl_InvariantFactors.l1] at h, fun _ _ _ _ r h => by simp [impl_InvariantFactors.l2] at h⟩
 | k + 1 => by
  obtain ⟨ih0, ih1, ih2, ih3⟩ := impl_InvariantFactors.mono_l k
  refine ⟨?_, ?_, ?_, ?_⟩
  ·intro y0 y1
   unfold impl_InvariantFactors.j0
   exact zm3
  ·intro y0 y1 y2
   unfold impl_InvariantFactors.l0
   exact zm3
  ·intro y0 y1 y2 y3 y4
   unfold impl_InvariantFactors.l1
   exact zm3
  ·intro y0 y1 y2 y3
   unfold impl_InvariantFactors.l2
   exact zm3
theorem impl_InvariantFactors.mono : ∀ a0 k, LeO (impl_InvariantFactors.f k a0) (impl_InvariantFactors.f (k + 1) a0) := by
 intro a0 k; obtain ⟨ih0, ih1, ih2, ih3⟩ := impl_InvariantFactors.mono_l k; unfold impl_InvariantFactors.f; exact zm3
def impl_InvariantFactors.T12 : Bool × List (List Nat × List Nat) := (true, [([], []), ([], []), ([1], [1]), ([], []), ([], []), ([4], [4]), ([3, 5], [3, 5]), ([6], [6]), ([], []), ([], []), ([], []), ([8, 9, 10], [8, 9, 10]), ([7, 11, 11], [7, 11]), ([0, 2, 0, 1, 2, 3, 4, 5, 6, 7, 8, 9, 10, 11, 12], [0, 2]), ([13, 12, 12, 0, 1, 2, 3, 4, 5, 6, 7, 8, 9, 10, 11, 12], [12, 13])])
def impl_InvariantFactors.B12 : List Nat := [0, 0, 2, 0, 0, 16, 56, 120, 0, 0, 0, 1792, 4088, 8191, 16383]
theorem impl_InvariantFactors.tab12 : rtab .any (opsOf Try.f40 12) = impl_InvariantFactors.T12 := by kernel_rfl
theorem impl_InvariantFactors.bits12 : waitsOk impl_InvariantFactors.T12.2 impl_InvariantFactors.B12 = true := by kernel_rfl
def impl_InvariantFactors.T19 : Bool × List (List Nat × List Nat) := (true, [([], []), ([], []), ([], []), ([2], [2]), ([1, 3], [1, 3]), ([4], [4]), ([], []), ([], []), ([6, 7], [6, 7]), ([8], [8]), ([5, 9], [5, 9]), ([10], [10]), ([0, 11], [0, 11]), ([12, 12, 0, 1, 2, 3, 4, 5, 6, 7, 8, 9, 10, 11, 12], [0, 12])])
def impl_InvariantFactors.B19 : List Nat := [0, 0, 0, 4, 14, 30, 0, 0, 192, 448, 1022, 2046, 4095, 8191]
theorem impl_InvariantFactors.tab19 : rtab .any (opsOf Try.f40 19) = impl_InvariantFactors.T19 := by kernel_rfl
theorem impl_InvariantFactors.bits19 : waitsOk impl_InvariantFactors.T19.2 impl_InvariantFactors.B19 = true := by kernel_rfl
theorem impl_InvariantFactors.calls (k : Nat) (A0 : Option Addr) (c0 : Nat) (l0 : List (List Int)) (r : List Int) (w : World) (hr0 : Kd.C (Kd.slice 3 (Kd.int .i64)) w A0 l0.length l0) (hc0 : l0.length ≤ c0) (h : impl_InvariantFactors.f k l0 = some r) :
  Calls Try.prog 40 #[.slice A0 l0.length c0] w fun e w' => ∃ v0_ : Value, e = .returned (v0_) ∧ Kd.R (Kd.int .i64) 3 w' w.heap.size (fun _ => True) v0_ r ∧ Below w.heap.size w w' := by
 have HR0 := zK_ hr0; have HC0 := zK_ hc0; clear hr0 hc0; have HB := zK_ (Below.refl w.heap.size w); have H : ((impl_MatrixOk.f k l0).bind fun bH => (if bH = true then (impl_InvariantFactors.j0 k l0 ((l0.length : Int) == 0)) else (impl_InvariantFactors.j0 k l0 true))) = some r := h; clear h; have HC2 := zK_ H; clear H; go_enter Try.func40, Try.ntmps40; (go_upto_region 1 with (fail)); go_cut [16] (fun v16 wc => ∃ (kq : Nat) (sA : Bool), v16 = .bool sA ∧ Aside0 (impl_InvariantFactors.j0 kq l0 sA = some r) ∧ Aside0 (kq ≤ k) ∧ Aside0 (Below w.heap.size w wc))
 case first =>
  have H := HC2.out; clear HC2; obtain ⟨bH, A30, H⟩ := zO_ H; (try dsimp only at H); have A3 := zK_ A30; clear A30; by_cases c4 : bH = true
  ·subst c4; rw [if_pos rfl] at H; have H' := zK_ H; clear H; (go_wp2_with (first | ((with_reducible refine gate_callee (f := 77) rfl ?_); refine goesL_ (some 10) rfl rfl Try.func77 (by kernel_rfl) rfl #[.slice A0 l0.length c0] rfl zz3 ?_; (with_reducible refine (impl_MatrixOk.calls k _ _ l0 true _ ?side1 ?side2 A3.out).mono ?_); (case side1 => exact zz63); (case side2 => exact HC0.out); rintro e w' ⟨rfl, ⟨nd, rfl⟩⟩; refine ⟨_, rfl, ?_⟩))); (go_meet); case rel => exact ⟨_, (((l0.length : Int) == 0)), zz6, H', ⟨by first | omega | exact Nat.le_refl _⟩, ⟨zz2⟩⟩
  replace c4 := Bool.eq_false_iff.mpr c4; subst c4; rw [if_neg (show ¬ (false = true) by decide)] at H; have H' := zK_ H; clear H; (go_wp2_with (first | ((with_reducible refine gate_callee (f := 77) rfl ?_); refine goesL_ (some 10) rfl rfl Try.func77 (by kernel_rfl) rfl #[.slice A0 l0.length c0] rfl zz3 ?_; (with_reducible refine (impl_MatrixOk.calls k _ _ l0 false _ ?side1 ?side2 A3.out).mono ?_); (case side1 => exact zz63); (case side2 => exact HC0.out); rintro e w' ⟨rfl, ⟨nd, rfl⟩⟩; refine ⟨_, rfl, ?_⟩))); (go_meet); case rel => exact ⟨_, (true), zz6, H', ⟨by first | omega | exact Nat.le_refl _⟩, ⟨zz2⟩⟩
 case rest =>
  clear HC2; (try clear p2); (try clear c4); obtain ⟨kq, sA, rfl, HA, HJ1, HB⟩ := hcut
  cases kq with
  | zero => exact absurd HA.out (by simp [impl_InvariantFactors.j0])
  | succ kj1 =>
   have H := HA.out; clear HA; simp only [impl_InvariantFactors.j0] at H; by_cases c5 : sA = true
   ·subst c5; rw [if_pos rfl] at H; obtain rfl := Option.some.inj H; go_wp2; go_ret; exact ⟨_, zz10, zz44, zz2⟩
   replace c5 := Bool.eq_false_iff.mpr c5; subst c5; rw [if_neg (show ¬ (false = true) by decide)] at H; obtain ⟨rO, qQ⟩ : ∃ j_ : Int, (wrap64 ((l0.length : Int) + 1)) = j_ := ⟨_, rfl⟩; (replace H : (if 0 ≤ (rO) then (if (rO : Int).toNat ≤ 35184372088832 then (impl_InvariantFactors.l0 kj1 l0 (List.replicate (rO : Int).toNat 0) 0) else (none)) else (none)) = some r := by first | (rw [qQ] at H; exact H) | (simp only [qQ] at H ⊢; exact H)); have P6 : (IntKind.i64.wrap ((l0.length : Int) + 1)) = rO := (i64_w _).trans qQ; by_cases c7 : 0 ≤ (rO); rotate_left
   ·rw [if_neg c7] at H; exact absurd H (by simp)
   rw [if_pos c7] at H; have iM := eq_true c7; have tS : decide (0 ≤ (rO)) = true := decide_eq_true c7; clear c7; by_cases c8 : (rO : Int).toNat ≤ 35184372088832; rotate_left
   ·rw [if_neg c8] at H; exact absurd H (by simp)
   rw [if_pos c8] at H; have gV := eq_true c8; have rX : decide ((rO : Int).toNat ≤ 35184372088832) = true := decide_eq_true c8; clear c8; obtain ⟨jF, hy_⟩ : ∃ y_ : List Int, y_ = (List.replicate (rO : Int).toNat 0) := ⟨_, rfl⟩; (replace H : (impl_InvariantFactors.l0 kj1 l0 jF 0) = some r := zzY); have iN := zK_ hy_; clear hy_; have H' := zK_ H; clear H; (go_wp2_with (first | ((with_reducible refine gate_dst (N := 20) rfl ?_); (try (refine gate_guard (by rfl) ?_; dsimp only)); refine Kd.R_make (Kd.int .i64) _ 3 rfl (N := 20) rfl 26 _ _ rfl rO rfl rfl Try.underlying26 (.int .i64 0) 8 info3 rfl (by decide) (by omega) 0 (ok := fun _ => True) (okp := fun _ => True) rfl (fun _ hk => hk) trivial (of_decide_eq_true zz4) (Nat.le_trans (Nat.mul_le_mul_right _ (of_decide_eq_true zz4 : rO.toNat ≤ 35184372088832)) (by omega)) (Below.refl _ _) (Nat.le_refl _) ?_; intro v103 w9 ho10 hb hg_ hnew_; clear hg_ hnew_; (first | rw [← iN.out] at ho10 | (simp only [Int.reduceToNat] at ho10; rw [← iN.out] at ho10)); have n_ := zA2 (Kd.R_lower ho10 (below_size zz2)) (below_step zz2 hb); clear HB; obtain ⟨cN, HB⟩ := n_; clear hb ho10))); (go_loopg [4] kj1 (fun kq v4 w' => ∃ (cC : List Int) (mM : Int), v4 = .int .i64 mM ∧ Aside0 (impl_InvariantFactors.l0 kq l0 cC mM = some r) ∧ Aside0 (kq ≤ kj1) ∧ Aside0 (Kd.R (Kd.int .i64) 3 w' w.heap.size (fun _ => True) v103 cC) ∧ Aside0 (Below w.heap.size w w'))); case atStart => exact ⟨(jF), (0), zz6, H', ⟨Nat.le_refl _⟩, ⟨zz85⟩, ⟨zz2⟩⟩
   case round =>
    clear H'; (try clear p2); (try clear c4); (try clear c5); (try clear p6); (try clear c7); (try clear iM); (try clear tS); (try clear c8); (try clear gV); (try clear rX); (try clear p2); obtain ⟨cC, mM, rfl, HA, HK2, bG, HB⟩ := hrel
    cases gk with
    | zero => exact absurd HA.out (by simp [impl_InvariantFactors.l0])
    | succ k2 =>
     have H := HA.out; clear HA; simp only [impl_InvariantFactors.l0] at H; obtain ⟨jL, kQ⟩ : ∃ j_ : Int, (shl .i64 1 (l0.length : Int)) = j_ := ⟨_, rfl⟩; (replace H : (if mM < (jL) then ((impl_bitsOf.f k2 mM).bind fun cM => (impl_InvariantFactors.l1 k2 l0 cC mM cM 0)) else (impl_InvariantFactors.l2 k2 cC ([] : List Int) (l0.length : Int) 0)) = some r := by first | (rw [kQ] at H; exact H) | (simp only [kQ] at H ⊢; exact H)); have nL : (IntKind.i64.wrap (1 * 2 ^ min (l0.length : Int).toNat 64)) = jL := kQ; have nK : (l0.length : Int) ≤ 64 → (IntKind.i64.wrap (1 * 2 ^ (l0.length : Int).toNat)) = jL := shl_small kQ; have zD : (IntKind.i64.wrap (1 * 2 ^ min l0.length 64)) = jL := nL; have zC : (l0.length : Int) ≤ 64 → (IntKind.i64.wrap (1 * 2 ^ l0.length)) = jL := nK; (have MK : (IntKind.i64.wrap (2 ^ min l0.length 64)) = jL := by have h_ := zD; rw [Int.one_mul] at h_; exact h_); (have MJ : (l0.length : Int) ≤ 64 → (IntKind.i64.wrap (2 ^ l0.length)) = jL := fun hle_ => by have h_ := zC hle_; rw [Int.one_mul] at h_; exact h_); (have zB : (IntKind.i64.wrap (2 ^ min (l0.length : Int).toNat 64)) = jL := by have h_ := nL; rw [Int.one_mul] at h_; exact h_); (have zA : (l0.length : Int) ≤ 64 → (IntKind.i64.wrap (2 ^ (l0.length : Int).toNat)) = jL := fun hle_ => by have h_ := nK hle_; rw [Int.one_mul] at h_; exact h_); have yY : (wrap64 (1 * 2 ^ min (l0.length : Int).toNat 64)) = jL := (i64_w _).symm.trans nL; (have yZ : (l0.length : Int) ≤ 64 → (wrap64 (1 * 2 ^ (l0.length : Int).toNat)) = jL := fun h_ => (i64_w _).symm.trans (nK h_)); by_cases c12 : mM < (jL)
     ·rw [if_pos c12] at H; have mJ := decide_eq_true c12; clear c12; obtain ⟨cM, A130, H⟩ := zO_ H; (try dsimp only at H); have A13 := zK_ A130; clear A130; have H' := zK_ H; clear H; (go_wp2_with (first | ((with_reducible refine gate_callee (f := 78) rfl ?_); refine goesL_ (some 29) rfl rfl Try.func78 (by kernel_rfl) rfl #[.int .i64 mM] rfl zz3 ?_; (with_reducible refine (impl_bitsOf.calls k2 mM cM _ A13.out).mono ?_); rintro e w14 ⟨v106, rfl, ho0, hb⟩; refine ⟨_, rfl, ?_⟩; have n_ := zA3 (Kd.R_elder' zz33 (Kd.R_base ho0) hb) (Kd.R_lower (Kd.R_new' ho0 (Kd.R_lt zz33)) (below_size zz2)) (below_step zz2 hb); clear bG HB; obtain ⟨bG, rI, HB⟩ := n_; clear ho0 hb))); (go_loopg [6] k2 (fun kq v6 w' => ∃ (k9 : List Int) (k8 : Int), v6 = .int .i64 k8 ∧ Aside0 (impl_InvariantFactors.l1 kq l0 k9 mM cM k8 = some r) ∧ Aside0 (kq ≤ k2) ∧ Aside0 (Kd.R (Kd.int .i64) 3 w' w.heap.size (fun k_ => some k_ ≠ (v106 : Value).ownBlock) v103 k9) ∧ Aside0 (Kd.R (Kd.int .i64) 3 w' w.heap.size (fun k_ => some k_ ≠ (v103 : Value).ownBlock) v106 cM) ∧ Aside0 (Below w.heap.size w w'))); case atStart => exact ⟨(cC), (0), zz6, H', ⟨Nat.le_refl _⟩, ⟨by (with_reducible repeat (first | apply Kd.R_alloc | apply Kd.R_drewN | apply Kd.R_drew)); exact Kd.R_mono bG.out (fun _ hk => hk.2)⟩, ⟨by (with_reducible repeat (first | apply Kd.R_alloc | apply Kd.R_drewN | apply Kd.R_drew)); exact Kd.R_mono rI.out (fun _ hk => hk.2)⟩, ⟨zz2⟩⟩
      case round =>
       clear H'; (try clear c1); (try clear p2); (try clear c4); (try clear c5); (try clear p6); (try clear c7); (try clear iM); (try clear tS); (try clear c8); (try clear gV); (try clear rX); (try clear c12); (try clear mJ); (try clear p2); (try clear p6); obtain ⟨k9, k8, rfl, HA, HK3, bG, cO, HB⟩ := hrel
       cases gk with
       | zero => exact absurd HA.out (by simp [impl_InvariantFactors.l1])
       | succ k3 =>
        have H := HA.out; clear HA; simp only [impl_InvariantFactors.l1] at H; (replace H : (if k8 < (jL) then ((impl_bitsOf.f k3 k8).bind fun d9 => (if (d9.length : Int) = (cM.length : Int) then (if 0 ≤ (cM.length : Int) then (if (cM.length : Int) < (k9.length : Int) then ((impl_determinant.f k3 l0 cM k8).bind fun fE => ((impl_divisor.f k3 (rd k9 (cM.length : Int)) fE).bind fun fD => (impl_InvariantFactors.l1 k3 l0 (k9.set ((cM.length : Int) : Int).toNat fD) mM cM (wrap64 (k8 + 1))))) else (none)) else (none)) else (impl_InvariantFactors.l1 k3 l0 k9 mM cM (wrap64 (k8 + 1))))) else (impl_InvariantFactors.l0 k3 l0 k9 (wrap64 (mM + 1)))) = some r := by first | (rw [kQ] at H; exact H) | (simp only [kQ] at H ⊢; exact H)); by_cases c16 : k8 < (jL); rotate_left
        ·rw [if_neg c16] at H; have kD := decide_eq_false c16; clear c16; have H' := zK_ H; clear H; go_wp2; go_roundg k3; (case measure => have := HJ1.out; have := HK2.out; have := HK3.out; omega); case rel => exact ⟨(k9), (wrap64 (mM + 1)), zz6, H', ⟨by have := HJ1.out; have := HK2.out; have := HK3.out; omega⟩, ⟨by (with_reducible repeat (first | apply Kd.R_alloc | apply Kd.R_drewN | apply Kd.R_drew)); exact Kd.R_mono bG.out (fun _ hk => trivial)⟩, ⟨zz2⟩⟩
        rw [if_pos c16] at H; have kD := decide_eq_true c16; clear c16; obtain ⟨d9, A170, H⟩ := zO_ H; (try dsimp only at H); have A17 := zK_ A170; clear A170; by_cases c18 : (d9.length : Int) = (cM.length : Int); rotate_left
        ·rw [if_neg c18] at H; have nC : ((d9.length : Int) == (cM.length : Int)) = false := beq_eq_false_iff_ne.mpr c18; have nB : ((d9.length : Int) != (cM.length : Int)) = true := bne_iff_ne.mpr c18; (have yI : (d9.length == cM.length) = false := by first | simpa using c18 | (simp at c18 ⊢; omega)); have H' := zK_ H; clear H; (go_wp2_with (first | ((with_reducible refine gate_callee (f := 78) rfl ?_); refine goesL_ (some 38) rfl rfl Try.func78 (by kernel_rfl) rfl #[.int .i64 k8] rfl zz3 ?_; (with_reducible refine (impl_bitsOf.calls k3 k8 d9 _ A17.out).mono ?_); rintro e w32 ⟨v109, rfl, ho0, hb⟩; refine ⟨_, rfl, ?_⟩; have n_ := zA4 (Kd.R_elder' zz33 (Kd.R_base ho0) hb) (Kd.R_elder' zz51 (Kd.R_base ho0) hb) (Kd.R_lower (Kd.R_new' (Kd.R_new' ho0 (Kd.R_lt zz33)) (Kd.R_lt zz51)) (below_size zz2)) (below_step zz2 hb); clear bG cO HB; obtain ⟨bG, cO, gA, HB⟩ := n_; clear ho0 hb; obtain ⟨Ao33, co33, xM⟩ := Kd.R_slice gA.out; subst xM; obtain ⟨Ao34, co34, zT⟩ := Kd.R_slice cO.out; subst zT))); go_roundg k3; (case measure => have := HJ1.out; have := HK2.out; have := HK3.out; omega); case rel => exact ⟨(k9), (wrap64 (k8 + 1)), zz6, H', ⟨by have := HJ1.out; have := HK2.out; have := HK3.out; omega⟩, ⟨by (with_reducible repeat (first | apply Kd.R_alloc | apply Kd.R_drewN | apply Kd.R_drew)); exact Kd.R_mono bG.out (fun _ hk => hk.1)⟩, ⟨by (with_reducible repeat (first | apply Kd.R_alloc | apply Kd.R_drewN | apply Kd.R_drew)); exact Kd.R_mono cO.out (fun _ hk => hk.1)⟩, ⟨zz2⟩⟩
        rw [if_pos c18] at H; have nC : ((d9.length : Int) == (cM.length : Int)) = true := beq_iff_eq.mpr c18; have nB : ((d9.length : Int) != (cM.length : Int)) = false := bne_eq_false_iff_eq.mpr c18; (have yI : (d9.length == cM.length) = true := by first | simpa using c18 | (simp at c18 ⊢; omega)); clear c18; by_cases c19 : 0 ≤ (cM.length : Int); rotate_left
        ·rw [if_neg c19] at H; exact absurd H (by simp)
        rw [if_pos c19] at H; have yH := decide_eq_true c19; have FJ : decide (0 ≤ cM.length) = true := decide_eq_true (by omega); clear c19; by_cases c20 : (cM.length : Int) < (k9.length : Int); rotate_left
        ·rw [if_neg c20] at H; exact absurd H (by simp)
        rw [if_pos c20] at H; have oN := decide_eq_true c20; have u6 : decide (cM.length < k9.length) = true := decide_eq_true (Int.ofNat_lt.mp c20); clear c20; obtain ⟨fE, A210, H⟩ := zO_ H; (try dsimp only at H); have A21 := zK_ A210; clear A210; obtain ⟨fD, A220, H⟩ := zO_ H; (try dsimp only at H); have A22 := zK_ A220; clear A220; obtain ⟨qG, hy_⟩ : ∃ y_ : List Int, y_ = (k9.set ((cM.length : Int) : Int).toNat fD) := ⟨_, rfl⟩; (replace H : (impl_InvariantFactors.l1 k3 l0 qG mM cM (wrap64 (k8 + 1))) = some r := zzY); have oU := zK_ hy_; clear hy_; have H' := zK_ H; clear H; (try go_wp2_with (first | ((with_reducible refine gate_callee (f := 78) rfl ?_); refine goesL_ (some 38) rfl rfl Try.func78 (by kernel_rfl) rfl #[.int .i64 k8] rfl zz3 ?_; (with_reducible refine (impl_bitsOf.calls k3 k8 d9 _ A17.out).mono ?_); rintro e w24 ⟨v109, rfl, ho0, hb⟩; refine ⟨_, rfl, ?_⟩; have n_ := zA4 (Kd.R_elder' zz33 (Kd.R_base ho0) hb) (Kd.R_elder' zz51 (Kd.R_base ho0) hb) (Kd.R_lower (Kd.R_new' (Kd.R_new' ho0 (Kd.R_lt zz33)) (Kd.R_lt zz51)) (below_size zz2)) (below_step zz2 hb); clear bG cO HB; obtain ⟨bG, cO, gA, HB⟩ := n_; clear ho0 hb; obtain ⟨Ao25, co25, NA⟩ := Kd.R_slice gA.out; subst NA; obtain ⟨Ao26, co26, rU⟩ := Kd.R_slice cO.out; subst rU))); have n_ := zA4 (Kd.R_drew bG.out) (Kd.R_drew cO.out) (Kd.R_drew gA.out) (below_drew1 HB.out); clear bG cO gA HB; obtain ⟨bG, cO, gA, HB⟩ := n_; obtain ⟨Ao28, co28, ER⟩ := Kd.R_slice bG.out; (first | subst ER | (injection ER with f1_ f2_ f3_; have f4_ := f1_.symm; have f5_ := f3_.symm; clear f1_ f2_ f3_; subst f4_; subst f5_)); have p111 : 0 ≤ ((cM.length : Int) : Int) := of_decide_eq_true zz4; have q111 : (cM.length : Int) < (k9.length : Int) := of_decide_eq_true zz4; obtain ⟨vF, e111, gE⟩ := Kd.at_int (Kd.R_reads' bG.out).2.2 (cM.length : Int) p111 q111; cases e111; (try simp only [Go.IntWalk.toNatUp] at gE); replace p111 := eq_true p111; replace q111 := eq_true q111; refine start_ (n := 15) (S := fun w' => w'.cell? (vF.add ((cM.length : Int)).toNat) = some (.int .i64 (rd k9 (cM.length : Int)))) (ds := [14]) (zM 15 0) (by kernel_rfl) rfl rfl (gE) (fun hHeld => ?_); refine with_tabW impl_InvariantFactors.tab12 impl_InvariantFactors.bits12 (fun HT_ HW_ => ?_); generalize w24.drew = w27 at bG cO gA HB gE hHeld ⊢; refine zQ 0 43 (zM 15 1) ?_
        refine zQ 1 44 (zM 15 3) ?_
        refine zQ 2 45 (zM 15 7) ?_
        refine zQ 3 46 (zM 15 15) ?_
        refine zQ 4 47 (zM 15 31) ?_
        refine zQ 5 48 (zM 15 63) ?_
        refine zQ 6 49 (zM 15 127) ?_
        refine zQ 8 51 (zM 15 383) ?_
        refine zQ 9 52 (zM 15 895) ?_
        refine zQ 10 53 (zM 15 1919) ?_
        refine take_ (i := 7) (N := some 50) (v := ?_) (a' := ?_) (zM 15 2047) rfl rfl (take_ofW HT_.out HW_.out (by kernel_rfl)) (fun _ _ _ h => h) (Or.inl ⟨by rfl, ?_⟩) hHeld ?_ ?_; rotate_left
        ·intro w' s0; (try simp only [Int.toNat_natCast] at s0); exact zzT
        rotate_left
        ·exact zzS
        refine one_ (i := 11) (N := some 54) (zM 15 4095) rfl rfl (one_of HT_.out (by kernel_rfl)) (by decide) (fun K hK => ?_); refine goes_ Try.func80 (by kernel_rfl) rfl #[.slice A0 l0.length c0, .slice Ao26 cM.length co26, .int .i64 k8] (by rfl) rfl rfl zz3 ?_; (with_reducible refine (impl_determinant.calls k3 _ _ l0 _ _ cM k8 fE _ ?side1 ?side2 ?side3 ?side4 A21.out).mono ?_); (case side1 => exact zz63); (case side2 => exact HC0.out); (case side3 => repeat (first | exact (Kd.R_reads' cO.out).2.2 | (with_reducible refine Kd.C_alloc ?_ _) | (with_reducible refine Kd.C_drewN ?_ _) | (with_reducible refine Kd.C_drew ?_))); (case side4 => exact (Kd.R_reads' cO.out).2.1); rintro e w29 ⟨rfl, hb⟩; have HS0_ := (hb.cell (World.block_lt_of_cell? _ _ (hHeld))).trans (hHeld); refine ⟨_, rfl, ?_⟩; have n_ := zA4 (Kd.R_below zz33 hb) (Kd.R_below zz51 hb) (Kd.R_below zz131 hb) (below_step zz2 hb); clear bG cO gA HB; obtain ⟨bG, cO, gA, HB⟩ := n_; (try clear hb); (try clear hb2); (try clear hk); (try clear hi); refine hK.out _ _ (HS0_) (fun hHeld => ?_); clear hK K; refine norm_ (a' := ?_) ?_ ?_; rotate_left
        ·show Act.put _ (some 54) _ = _; exact zzS
        refine one_ (i := 12) (N := some 55) (zM 15 8191) rfl rfl (one_of HT_.out (by kernel_rfl)) (by decide) (fun K hK => ?_); refine goes_ Try.func79 (by kernel_rfl) rfl #[.int .i64 (rd k9 (cM.length : Int)), .int .i64 fE] (by rfl) rfl rfl zz3 ?_; (with_reducible refine (impl_divisor.calls k3 (rd k9 (cM.length : Int)) fE fD _ A22.out).mono ?_); rintro e w30 ⟨rfl, hb⟩; have HS0_ := (hb.cell (World.block_lt_of_cell? _ _ (hHeld))).trans (hHeld); refine ⟨_, rfl, ?_⟩; have n_ := zA4 (Kd.R_below zz33 hb) (Kd.R_below zz51 hb) (Kd.R_below zz131 hb) (below_step zz2 hb); clear bG cO gA HB; obtain ⟨bG, cO, gA, HB⟩ := n_; (try clear hb); (try clear hb2); (try clear hk); (try clear hi); have p23 : 0 ≤ ((cM.length : Int) : Int) := of_decide_eq_true zz4; have q23 : ((cM.length : Int) : Int) < ((k9.length : Int) : Int) := of_decide_eq_true zz4; obtain ⟨go23, co23, uU, EC, gl23, cl23, HG23⟩ := Kd.R_form bG.out (by omega); (first | cases uU | (injection uU with ea_ en_ ec_; (first | subst ea_ | (injection ea_ with ea_; subst ea_)); subst ec_; clear en_)); have NQ := zK_ EC; have RR := zK_ HG23; clear EC gl23 HG23; (first | simp only [add_plain] at gE | skip); obtain ⟨tZ, zF⟩ := Kd.R_celln 0 bG.out ((cM.length : Int) : Int) p23 q23; (try simp only [Int.toNat_natCast] at tZ zF); replace p23 := eq_true p23; replace q23 := eq_true q23; have z5 := Kd.R_putn bG.out ((cM.length : Int) : Int) fD; rw [← oU.out] at z5; have NJ := zK_ z5; clear z5; refine hK.out _ _ (HS0_) (fun hHeld => ?_); clear hK K; refine norm_ (a' := ?_) ?_ ?_; rotate_left
        ·show Act.put _ (some 55) _ = _; exact zzS
        refine zQ 13 56 (zM 15 16383) ?_
        refine last_ (i := 14) (N := none) (zM 15 32767) rfl rfl (one_of HT_.out (by kernel_rfl)) (by decide) (fun K hK => ?_); refine skip_ (w1 := ?_) (by rfl) rfl ?_ ?_; rotate_left
        ·go_simp; rfl
        refine hK.out _ _ ?_; clear hK K; refine done_ (done_of HT_.out (by kernel_rfl)) ?_; (try go_wp2); go_roundg k3; (case measure => have := HJ1.out; have := HK2.out; have := HK3.out; omega); case rel => exact ⟨(qG), (wrap64 (k8 + 1)), zz6, H', ⟨by have := HJ1.out; have := HK2.out; have := HK3.out; omega⟩, ⟨by (with_reducible repeat (first | apply Kd.R_alloc | apply Kd.R_drewN | apply Kd.R_drew)); exact Kd.R_mono NJ.out (fun _ hk => hk.1)⟩, ⟨by (with_reducible repeat (first | apply Kd.R_alloc | apply Kd.R_drewN | apply Kd.R_drew)); exact Kd.R_mono (Kd.R_far (p := ⟨go23, ((cM.length : Int) : Int).toNat, none⟩) (Kd.R_mono cO.out (fun k_ hk => (⟨hk, fun e_ => hk.1 (by rw [e_]; rfl)⟩ : _ ∧ k_ ≠ go23))) (fun _ hk => hk.2) (.int .i64 fD)) (fun _ hk => hk.1.1)⟩, ⟨by repeat (first | (with_reducible first | exact HB.out | apply below_alloc | apply pw_below_drewN | apply below_drew1 | refine below_set ?_ NQ.out) | exact HB.out)⟩⟩
     rw [if_neg c12] at H; have mJ := decide_eq_false c12; clear c12; have H' := zK_ H; clear H; go_wp2; (go_loopg [7, 59] k2 (fun kq v7 v59 w' => ∃ (nG : List Int) (fY : Int), v59 = .int .i64 fY ∧ Aside0 (impl_InvariantFactors.l2 kq cC nG (l0.length : Int) fY = some r) ∧ Aside0 (kq ≤ k2) ∧ Aside0 (Kd.R (Kd.int .i64) 3 w' w.heap.size (fun k_ => some k_ ≠ (v7 : Value).ownBlock) v103 cC) ∧ Aside0 (Kd.R (Kd.int .i64) 3 w' w.heap.size (fun k_ => some k_ ≠ (v103 : Value).ownBlock) v7 nG) ∧ Aside0 (Below w.heap.size w w'))); case atStart => exact ⟨(([] : List Int)), (0), zz6, H', ⟨Nat.le_refl _⟩, ⟨by (with_reducible repeat (first | apply Kd.R_alloc | apply Kd.R_drewN | apply Kd.R_drew)); exact Kd.R_mono bG.out (fun _ hk => (by simp [Value.ownBlock]))⟩, ⟨zz44⟩, ⟨zz2⟩⟩
     case round =>
      clear H'; (try clear c1); (try clear p1); (try clear q1); (try clear hx1); (try clear c2); (try clear p2); (try clear q2); (try clear hx2); (try clear hf2); (try clear c4); (try clear c5); (try clear p6); (try clear c7); (try clear iM); (try clear tS); (try clear c8); (try clear gV); (try clear rX); (try clear p11); (try clear q11); (try clear hx11); (try clear c12); (try clear mJ); (try clear c16); (try clear kD); (try clear c18); (try clear nC); (try clear nB); (try clear yI); (try clear c19); (try clear yH); (try clear FJ); (try clear c20); (try clear oN); (try clear u6); (try clear p23); (try clear q23); (try clear hx23); (try clear hf23); (try clear gE); (try clear tZ); (try clear p111); (try clear p2); (try clear p23); (try clear p6); (try clear q111); (try clear q23); obtain ⟨nG, fY, rfl, HA, HK3, bG, fR, HB⟩ := hrel
      cases gk with
      | zero => exact absurd HA.out (by simp [impl_InvariantFactors.l2])
      | succ k3 =>
       have H := HA.out; clear HA; simp only [impl_InvariantFactors.l2] at H; by_cases c35 : fY < (l0.length : Int); rotate_left
       ·rw [if_neg c35] at H; have FE := decide_eq_false c35; clear c35; obtain rfl := Option.some.inj H; go_wp2; go_ret; exact ⟨_, by first | rfl | (simp [errW_none, errW_some] <;> rfl) | (simp only [← qQ, ← kQ]; first | rfl | (simp [errW_none, errW_some] <;> rfl)) | (simp [*, errW_none, errW_some] <;> rfl), by (with_reducible repeat (first | apply Kd.R_alloc | apply Kd.R_drewN | apply Kd.R_drew)); exact Kd.R_mono fR.out (fun _ hk => trivial), zz2⟩
       rw [if_pos c35] at H; have FE := decide_eq_true c35; clear c35; obtain ⟨cI, lC⟩ : ∃ j_ : Int, (wrap64 (fY + 1)) = j_ := ⟨_, rfl⟩; (replace H : (if 0 ≤ (cI) then (if (cI) < (cC.length : Int) then (if (rd cC (cI)) = 0 then (if nG.length < 17592186044416 then (impl_InvariantFactors.l2 k3 cC (nG ++ [0]) (l0.length : Int) cI) else (none)) else (if 0 ≤ fY then (if fY < (cC.length : Int) then (if (rd cC fY) = 0 then (none) else (if nG.length < 17592186044416 then (impl_InvariantFactors.l2 k3 cC (nG ++ [wrap64 (Int.tdiv (rd cC (cI)) (rd cC fY))]) (l0.length : Int) cI) else (none))) else (none)) else (none))) else (none)) else (none)) = some r := by first | (rw [lC] at H; exact H) | (simp only [lC] at H ⊢; exact H)); have LR : (IntKind.i64.wrap (fY + 1)) = cI := (i64_w _).trans lC; by_cases c37 : 0 ≤ (cI); rotate_left
       ·rw [if_neg c37] at H; exact absurd H (by simp)
       rw [if_pos c37] at H; have QX := decide_eq_true c37; clear c37; by_cases c38 : (cI) < (cC.length : Int); rotate_left
       ·rw [if_neg c38] at H; exact absurd H (by simp)
       rw [if_pos c38] at H; have QW := decide_eq_true c38; clear c38; by_cases c39 : (rd cC (cI)) = 0
       ·rw [if_pos c39] at H; have FD : ((rd cC (cI)) == 0) = true := beq_iff_eq.mpr c39; have FC : ((rd cC (cI)) != 0) = false := bne_eq_false_iff_eq.mpr c39; clear c39; by_cases c40 : nG.length < 17592186044416; rotate_left
        ·rw [if_neg c40] at H; exact absurd H (by simp)
        rw [if_pos c40] at H; have F5 := zK_ c40; clear c40; obtain ⟨rL, hy_⟩ : ∃ y_ : List Int, y_ = (nG ++ [0]) := ⟨_, rfl⟩; (replace H : (impl_InvariantFactors.l2 k3 cC rL (l0.length : Int) cI) = some r := zzY); have vH := zK_ hy_; clear hy_; have H' := zK_ H; clear H; obtain ⟨Ao41, co41, M8⟩ := Kd.R_slice bG.out; subst M8; have p115 : 0 ≤ ((cI) : Int) := of_decide_eq_true zz4; have q115 : (cI) < (cC.length : Int) := of_decide_eq_true zz4; obtain ⟨oS, e115, vZ⟩ := Kd.at_int (Kd.R_reads' bG.out).2.2 (cI) p115 q115; cases e115; replace p115 := eq_true p115; replace q115 := eq_true q115; (go_wp2_with (first | ((with_reducible refine gate_builtin (b := .append) (xs := #[.tmp 68, .tmp 69]) rfl ?_); (try (refine gate_guard (by rfl) ?_; dsimp only)); at_builtin; refine Kd.R_append (Kd.int .i64) (w0 := w) w.heap.size rfl (.tmp 68) (.tmp 69) 26 3 (.int .i64 0) 8 rfl Try.underlying26 info3 rfl (by decide) (by omega) u7 nG 0 [.int .i64 0] (fun k_ => some k_ ≠ (.slice (some oS) cC.length co41 : Value).ownBlock) (fun _ => False) rfl rfl ?aP (fun _ hk => hk.elim) ?aF ?aO ?aB ?aS ?aL ?_; (case aP => exact rfl); (case aB => exact zz2); (case aF => exact (fun k_ hk => Kd.fresh' (Kd.R_lt zz33) k_ hk)); (case aO => exact zz78); (case aS => exact (below_size zz2)); (case aL => have := F5.out; omega); intro v117 w42 ho hb hg hat; rw [← vH.out] at ho; have n_ := zA3 (Kd.R_after (ok := (fun _ => True)) (by (with_reducible repeat (first | apply Kd.R_alloc | apply Kd.R_drewN | apply Kd.R_drew)); exact Kd.R_mono bG.out (fun _ hk => ⟨trivial, hk⟩)) hg hat) hb ho; clear bG HB fR; obtain ⟨bG, HB, d7⟩ := n_; clear ho hb hg hat))); go_roundg k3; (case measure => have := HJ1.out; have := HK2.out; have := HK3.out; omega); case rel => exact ⟨(rL), (cI), (by first | rfl | (simp; done) | (simp only [← lC] <;> (first | rfl | simp)) | (simp [*]; done)), H', ⟨by have := HJ1.out; have := HK2.out; have := HK3.out; omega⟩, ⟨by (with_reducible repeat (first | apply Kd.R_alloc | apply Kd.R_drewN | apply Kd.R_drew)); exact Kd.R_mono bG.out (fun _ hk => hk.2)⟩, ⟨by (with_reducible repeat (first | apply Kd.R_alloc | apply Kd.R_drewN | apply Kd.R_drew)); exact d7.out⟩, ⟨zz2⟩⟩
       rw [if_neg c39] at H; have FD : ((rd cC (cI)) == 0) = false := beq_eq_false_iff_ne.mpr c39; have FC : ((rd cC (cI)) != 0) = true := bne_iff_ne.mpr c39; by_cases c43 : 0 ≤ fY; rotate_left
       ·rw [if_neg c43] at H; exact absurd H (by simp)
       rw [if_pos c43] at H; have QV := decide_eq_true c43; clear c43; by_cases c44 : fY < (cC.length : Int); rotate_left
       ·rw [if_neg c44] at H; exact absurd H (by simp)
       rw [if_pos c44] at H; have QU := decide_eq_true c44; clear c44; by_cases c45 : (rd cC fY) = 0
       ·rw [if_pos c45] at H; exact absurd H (by simp)
       rw [if_neg c45] at H; have yC : ((rd cC fY) == 0) = false := beq_eq_false_iff_ne.mpr c45; have FA : ((rd cC fY) != 0) = true := bne_iff_ne.mpr c45; by_cases c46 : nG.length < 17592186044416; rotate_left
       ·rw [if_neg c46] at H; exact absurd H (by simp)
       rw [if_pos c46] at H; have F3 := zK_ c46; clear c46; obtain ⟨tL, hy_⟩ : ∃ y_ : List Int, y_ = (nG ++ [wrap64 (Int.tdiv (rd cC (cI)) (rd cC fY))]) := ⟨_, rfl⟩; (replace H : (impl_InvariantFactors.l2 k3 cC tL (l0.length : Int) cI) = some r := zzY); have vG := zK_ hy_; clear hy_; have H' := zK_ H; clear H; obtain ⟨Ao47, co47, tP⟩ := Kd.R_slice bG.out; subst tP; have p115 : 0 ≤ ((cI) : Int) := of_decide_eq_true zz4; have q115 : (cI) < (cC.length : Int) := of_decide_eq_true zz4; obtain ⟨oS, e115, vZ⟩ := Kd.at_int (Kd.R_reads' bG.out).2.2 (cI) p115 q115; cases e115; replace p115 := eq_true p115; replace q115 := eq_true q115; (try go_wp2); have n_ := zA3 (Kd.R_drew bG.out) (Kd.R_drew fR.out) (below_drew1 HB.out); clear bG fR HB; obtain ⟨bG, fR, HB⟩ := n_; have p119 : 0 ≤ ((cI) : Int) := of_decide_eq_true zz4; have q119 : (cI) < (cC.length : Int) := of_decide_eq_true zz4; obtain ⟨FQ, e119, sF⟩ := Kd.at_int (Kd.R_reads' bG.out).2.2 (cI) p119 q119; obtain rfl : oS = FQ := (by injection e119); replace p119 := eq_true p119; replace q119 := eq_true q119; have p120 : 0 ≤ (fY : Int) := of_decide_eq_true zz4; have q120 : fY < (cC.length : Int) := of_decide_eq_true zz4; obtain ⟨yO, e120, nY⟩ := Kd.at_int (Kd.R_reads' bG.out).2.2 fY p120 q120; obtain rfl : oS = yO := (by injection e120); replace p120 := eq_true p120; replace q120 := eq_true q120; refine start_ (n := 14) (S := fun w' => w'.cell? (oS.add ((cI)).toNat) = some (.int .i64 (rd cC (cI))) ∧ w'.cell? (oS.add (fY).toNat) = some (.int .i64 (rd cC fY))) (ds := [11, 12]) (zM 14 0) (by kernel_rfl) rfl rfl ⟨sF, nY⟩ (fun hHeld => ?_); refine with_tabW impl_InvariantFactors.tab19 impl_InvariantFactors.bits19 (fun HT_ HW_ => ?_); generalize wr.drew = w48 at bG fR HB sF nY hHeld ⊢; refine zQ 0 71 (zM 14 1) ?_
       refine zQ 1 72 (zM 14 3) ?_
       refine zQ 2 73 (zM 14 7) ?_
       refine zQ 3 74 (zM 14 15) ?_
       refine zQ 4 75 (zM 14 31) ?_
       refine zQ 6 77 (zM 14 95) ?_
       refine zQ 7 78 (zM 14 223) ?_
       refine zQ 8 79 (zM 14 479) ?_
       refine take_ (i := 5) (N := some 76) (v := ?_) (a' := ?_) (zM 14 511) rfl rfl (take_ofW HT_.out HW_.out (by kernel_rfl)) (fun _ _ _ h => h) (Or.inl ⟨by rfl, ?_⟩) hHeld ?_ ?_; rotate_left
       ·rintro w' ⟨s0, s1⟩; exact zzT
       rotate_left
       ·exact zzS
       refine take_ (i := 9) (N := some 80) (v := ?_) (a' := ?_) (zM 14 1023) rfl rfl (take_ofW HT_.out HW_.out (by kernel_rfl)) (fun _ _ _ h => h) (Or.inl ⟨by rfl, ?_⟩) hHeld ?_ ?_; rotate_left
       ·rintro w' ⟨s0, s1⟩; exact zzT
       rotate_left
       ·exact zzS
       refine zQ 10 81 (zM 14 2047) ?_
       refine last_ (i := 11) (N := some 82) (zM 14 4095) rfl rfl (one_of HT_.out (by kernel_rfl)) (by decide) (fun K hK => ?_); refine value_ (w1 := ?_) (v := ?_) (by rfl) rfl ?_ ?_; rotate_left 2
       ·go_simp; constructor
        ·rfl
        ·rfl
       refine hK.out _ _ ?_; clear hK K; refine norm_ (a' := ?_) ?_ ?_; rotate_left
       ·show Act.put _ (some 82) _ = _; exact zzS
       refine last_ (i := 12) (N := some 83) (zM 14 8191) rfl rfl (one_of HT_.out (by kernel_rfl)) (by decide) (fun K hK => ?_); refine Kd.R_append_step (Kd.int .i64) (w0 := w) w.heap.size (by rfl) (.tmp 71) (.tmp 82) 26 3 (.int .i64 0) 8 rfl Try.underlying26 info3 rfl (by decide) (by omega) u7 nG (wrap64 (Int.tdiv (rd cC (cI)) (rd cC fY))) [.int .i64 (wrap64 (Int.tdiv (rd cC (cI)) (rd cC fY)))] (fun k_ => some k_ ≠ (.slice (some oS) cC.length co47 : Value).ownBlock) (fun _ => False) rfl rfl ?aP (fun _ hk => hk.elim) ?aF ?aO ?aB ?aS ?aL ?_; (case aP => exact rfl); (case aB => exact zz2); (case aF => exact (fun k_ hk => Kd.fresh' (Kd.R_lt zz33) k_ hk)); (case aO => exact zz78); (case aS => exact (below_size zz2)); (case aL => have := F3.out; omega); intro v122 w49 ho hb hg hat; rw [← vG.out] at ho; have n_ := zA3 (Kd.R_after (ok := (fun _ => True)) (by (with_reducible repeat (first | apply Kd.R_alloc | apply Kd.R_drewN | apply Kd.R_drew)); exact Kd.R_mono bG.out (fun _ hk => ⟨trivial, hk⟩)) hg hat) hb ho; clear bG HB fR; obtain ⟨bG, HB, eG⟩ := n_; clear ho hb hg hat; refine hK.out _ _ ?_; clear hK K; refine norm_ (a' := ?_) ?_ ?_; rotate_left
       ·show Act.put _ (some 83) _ = _; exact zzS
       refine zQ 13 7 (zM 14 16383) ?_
       refine done_ (done_of HT_.out (by kernel_rfl)) ?_; (try go_wp2); go_roundg k3; (case measure => have := HJ1.out; have := HK2.out; have := HK3.out; omega); case rel => exact ⟨(tL), (cI), (by first | rfl | (simp; done) | (simp only [← lC] <;> (first | rfl | simp)) | (simp [*]; done)), H', ⟨by have := HJ1.out; have := HK2.out; have := HK3.out; omega⟩, ⟨by (with_reducible repeat (first | apply Kd.R_alloc | apply Kd.R_drewN | apply Kd.R_drew)); exact Kd.R_mono bG.out (fun _ hk => hk.2)⟩, ⟨by (with_reducible repeat (first | apply Kd.R_alloc | apply Kd.R_drewN | apply Kd.R_drew)); exact eG.out⟩, ⟨zz2⟩⟩
end Go.Proofs.Ytkcbinohpdhbgaa.P
end

section
namespace Go.Proofs.Ytkcbinohpdhbgaa.P
open Go.RowKit Go.Proofs.YtkcbinohpdhbgaaW.PrintWords Go.Proofs.YtkcbinohpdhbgaaW.PrintLast Go.Proofs.YtkcbinohpdhbgaaW.PrintMore
attribute [local go_sem] max2_int min2_int max_two min_two max_three min_three max_four min_four
set_option linter.unusedVariables false
set_option linter.unusedSimpArgs false
def impl_isVertex.f (aD : Int) (aC : List (S76)) (a1 : Int) : Option (Bool) := (impl_GraphOk.f aD aC).bind fun aT => (if aT = true then ((impl_within.f a1 0 (wrap64 (aD - 1))).bind fun bD => (some bD)) else (some false))
theorem impl_isVertex.calls (aD : Int) (aH : Option Addr) (aG : Nat) (aC : List (S76)) (a1 : Int) (r : Bool) (w : World) (hr0_1 : Kd.C k76 w aH aC.length aC) (hc0_1 : aC.length ≤ aG) (h : impl_isVertex.f aD aC a1 = some r) :
  Calls Try.prog 58 #[.agg #[.int .i64 aD, .slice aH aC.length aG], .int .i64 a1] w fun e w' => e = .returned (.bool r) ∧ Below w.heap.size w w' := by
 have hu30 := Try.underlying30; have cB := zK_ hr0_1; have bO := zK_ hc0_1; clear hr0_1 hc0_1; have HB := zK_ (Below.refl w.heap.size w); have H : ((impl_GraphOk.f aD aC).bind fun aT => (if aT = true then ((impl_within.f a1 0 (wrap64 (aD - 1))).bind fun bD => (some bD)) else (some false))) = some r := h; clear h; obtain ⟨aT, A30, H⟩ := zO_ H; (try dsimp only at H); have A3 := zK_ A30; clear A30; by_cases c4 : aT = true; rotate_left
 ·replace c4 := Bool.eq_false_iff.mpr c4; subst c4; rw [if_neg (show ¬ (false = true) by decide)] at H; obtain rfl := Option.some.inj H; go_enter Try.func58, Try.ntmps58; (go_wp2_with (first | ((with_reducible refine gate_dst (N := 2) rfl ?_); refine box_event ?hg (N := 2) ?hd (cs := #[.int .i64 aD, .slice aH aC.length aG]) (t := 30) ?hr ?_; (case hd => rfl); (case hg => rfl); (case hr => exact zz21); intro aE hg w10 hbox hb; have n_ := zA4 (below_step zz2 hb) hbox (zz18 : w.heap.size ≤ aE) (zz18 : w.heap.size ≤ aE); clear HB; obtain ⟨HB, aA, GW101, GE101⟩ := n_; clear hb hbox hg; have mD := zC20 aA; have mC := zC21 aA; have lY := blk_frozen aA.out 0; have lX := blk_frozen aA.out 1) | ((with_reducible refine gate_callee (f := 39) rfl ?_); refine goesL_ (some 6) rfl rfl Try.func39 (by kernel_rfl) rfl #[.agg #[.int .i64 aD, .slice aH aC.length aG]] rfl zz3 ?_; (with_reducible refine (impl_GraphOk.calls aD _ _ aC false _ ?side1 ?side2 A3.out).mono ?_); (case side1 => exact zz5); (case side2 => exact bO.out); rintro e w12 ⟨rfl, hb⟩; refine ⟨_, rfl, ?_⟩; have n_ := zA2 (blk_below (g := aE) (o := .cells #[.int .i64 aD, .slice aH aC.length aG] 30 (0, 0)) zz1 hb) (below_step zz0 hb); clear aA HB; obtain ⟨aA, HB⟩ := n_; clear hb))); go_ret; exact ⟨zz10, zz0⟩
 subst c4; rw [if_pos rfl] at H; obtain ⟨bD, A50, H⟩ := zO_ H; (try dsimp only at H); have A5 := zK_ A50; clear A50; obtain rfl := Option.some.inj H; go_enter Try.func58, Try.ntmps58; (go_wp2_with (first | ((with_reducible refine gate_dst (N := 2) rfl ?_); refine box_event ?hg (N := 2) ?hd (cs := #[.int .i64 aD, .slice aH aC.length aG]) (t := 30) ?hr ?_; (case hd => rfl); (case hg => rfl); (case hr => exact zz21); intro aE hg w6 hbox hb; have n_ := zA4 (below_step zz2 hb) hbox (zz18 : w.heap.size ≤ aE) (zz18 : w.heap.size ≤ aE); clear HB; obtain ⟨HB, aA, GW101, GE101⟩ := n_; clear hb hbox hg; have f8 := zC20 aA; have f7 := zC21 aA; have f6 := blk_frozen aA.out 0; have f4 := blk_frozen aA.out 1) | ((with_reducible refine gate_callee (f := 39) rfl ?_); refine goesL_ (some 6) rfl rfl Try.func39 (by kernel_rfl) rfl #[.agg #[.int .i64 aD, .slice aH aC.length aG]] rfl zz3 ?_; (with_reducible refine (impl_GraphOk.calls aD _ _ aC true _ ?side1 ?side2 A3.out).mono ?_); (case side1 => exact zz5); (case side2 => exact bO.out); rintro e w8 ⟨rfl, hb⟩; refine ⟨_, rfl, ?_⟩; have n_ := zA2 (blk_below (g := aE) (o := .cells #[.int .i64 aD, .slice aH aC.length aG] 30 (0, 0)) zz1 hb) (below_step zz0 hb); clear aA HB; obtain ⟨aA, HB⟩ := n_; clear hb; have fQ := zC20 aA; have fP := zC21 aA; have fO := blk_frozen aA.out 0; have fN := blk_frozen aA.out 1) | (go_at_call 55; (with_reducible refine (impl_within.calls a1 0 (wrap64 (aD - 1)) bD _ A5.out).mono ?_); rintro e w' ⟨rfl, ⟨nd, rfl⟩⟩))); go_ret; exact ⟨zz10, zz0⟩
mutual
def impl_Valence.j0 : Nat → Int → Bool → Int → List (S76) → Option (Int)
 | 0, _, _, _, _ => none
 | k + 1, x1, nI, aY, aX => if nI = true then (some 0) else (impl_Valence.l0 k x1 0 aX (aX.length : Int) 0)
def impl_Valence.l0 : Nat → Int → Int → List (S76) → Int → Int → Option (Int)
 | 0, _, _, _, _, _ => none
 | k + 1, x1, x5, mN, oY, qI => if qI < oY then (if 0 ≤ qI then (if qI < (mN.length : Int) then (if ((rd_T76 mN qI).f0) = x1 then (impl_Valence.l0 k x1 (wrap64 (x5 + 1)) mN oY (wrap64 (qI + 1))) else (if ((rd_T76 mN qI).f1) = x1 then (impl_Valence.l0 k x1 (wrap64 (x5 + 1)) mN oY (wrap64 (qI + 1))) else (impl_Valence.l0 k x1 x5 mN oY (wrap64 (qI + 1))))) else (none)) else (none)) else (some x5)
end
def impl_Valence.f (k : Nat) (aD : Int) (aC : List (S76)) (a1 : Int) : Option (Int) := if a1 < 0 then (impl_Valence.j0 k a1 true aD aC) else (impl_Valence.j0 k a1 (decide (a1 ≥ aD)) aD aC)
theorem impl_Valence.mono_l : ∀ k, (∀ y0 y1 y2 y3, LeO (impl_Valence.j0 k y0 y1 y2 y3) (impl_Valence.j0 (k + 1) y0 y1 y2 y3)) ∧ (∀ y0 y1 y2 y3 y4, LeO (impl_Valence.l0 k y0 y1 y2 y3 y4) (impl_Valence.l0 (k + 1) y0 y1 y2 y3 y4))
 | 0 => ⟨fun _ _ _ _ r h => by simp [impl_Valence.j0] at h, fun _ _ _ _ _ r h => by simp [impl_Valence.l0] at h⟩
 | k + 1 => by
  obtain ⟨ih0, ih1⟩ := impl_Valence.mono_l k
  refine ⟨?_, ?_⟩
  ·intro y0 y1 y2 y3
   unfold impl_Valence.j0
   exact zm1
  ·intro y0 y1 y2 y3 y4
   unfold impl_Valence.l0
   exact zm1
theorem impl_Valence.mono : ∀ a0 a1 a2 k, LeO (impl_Valence.f k a0 a1 a2) (impl_Valence.f (k + 1) a0 a1 a2) := by
 intro a0 a1 a2 k; obtain ⟨ih0, ih1⟩ := impl_Valence.mono_l k; unfold impl_Valence.f; exact zm1
theorem impl_Valence.calls (k : Nat) (aD : Int) (aH : Option Addr) (aG : Nat) (aC : List (S76)) (a1 : Int) (r : Int) (w : World) (hr0_1 : Kd.C k76 w aH aC.length aC) (hc0_1 : aC.length ≤ aG) (h : impl_Valence.f k aD aC a1 = some r) :
  Calls Try.prog 89 #[.agg #[.int .i64 aD, .slice aH aC.length aG], .int .i64 a1] w fun e w' => e = .returned (.int .i64 r) ∧ Below w.heap.size w w' := by
 have hu30 := Try.underlying30; have hu76 := Try.underlying76; have cB := zK_ hr0_1; have bO := zK_ hc0_1; clear hr0_1 hc0_1; have HB := zK_ (Below.refl w.heap.size w); have H : (if a1 < 0 then (impl_Valence.j0 k a1 true aD aC) else (impl_Valence.j0 k a1 (decide (a1 ≥ aD)) aD aC)) = some r := h; clear h; have HC3 := zK_ H; clear H; go_enter Try.func89, Try.ntmps89; (go_upto_region 1 with (first | ((with_reducible refine gate_dst (N := 2) rfl ?_); refine box_event ?hg (N := 2) ?hd (cs := #[.int .i64 aD, .slice aH aC.length aG]) (t := 30) ?hr ?_; (case hd => rfl); (case hg => rfl); (case hr => exact zz21); intro aE hg w4 hbox hb; have n_ := zA4 (below_step zz2 hb) hbox (zz18 : w.heap.size ≤ aE) (zz18 : w.heap.size ≤ aE); clear HB; obtain ⟨HB, aA, GW101, GE101⟩ := n_; clear hb hbox hg))); (try simp only [Act.put, List.setIfInBounds_toArray, List.set_cons_zero, List.set_cons_succ]); go_cut [15] (fun v15 wc => ∃ (kq : Nat) (sB : Bool), v15 = .bool sB ∧ Aside0 (impl_Valence.j0 kq a1 sB aD aC = some r) ∧ Aside0 (kq ≤ k) ∧ Aside0 (wc.heap[aE]? = some (.cells #[.int .i64 aD, (.slice aH aC.length aG)] 30 (0, 0))) ∧ Aside0 (Below w.heap.size w wc))
 case first =>
  have H := HC3.out; clear HC3; by_cases c5 : a1 < 0
  ·rw [if_pos c5] at H; have fX := decide_eq_true c5; clear c5; (first | rw [fX] | (simp only [i64_w, i32_w]; rw [fX]) | skip); have H' := zK_ H; clear H; go_wp2; (go_meet); case rel => exact ⟨_, (true), zz6, H', ⟨by first | omega | exact Nat.le_refl _⟩, ⟨zz1⟩, ⟨zz0⟩⟩
  rw [if_neg c5] at H; have fX := decide_eq_false c5; clear c5; (first | rw [fX] | (simp only [i64_w, i32_w]; rw [fX]) | skip); have H' := zK_ H; clear H; have jQ := zC20 aA; have jP := zC21 aA; have jO := blk_frozen aA.out 0; have jN := blk_frozen aA.out 1; go_wp2; (go_meet); case rel => exact ⟨_, (decide (a1 ≥ aD)), zz6, H', ⟨by first | omega | exact Nat.le_refl _⟩, ⟨zz1⟩, ⟨zz0⟩⟩
 case rest =>
  clear HC3; (try clear p2); (try clear c5); (try clear fX); (try clear jQ); (try clear jP); (try clear jO); (try clear jN); obtain ⟨kq, sB, rfl, HA, HJ2, aA, HB⟩ := hcut
  cases kq with
  | zero => exact absurd HA.out (by simp [impl_Valence.j0])
  | succ kj2 =>
   have H := HA.out; clear HA; simp only [impl_Valence.j0] at H; by_cases c7 : sB = true
   ·subst c7; rw [if_pos rfl] at H; obtain rfl := Option.some.inj H; go_wp2; go_ret; exact ⟨zz10, zz0⟩
   replace c7 := Bool.eq_false_iff.mpr c7; subst c7; rw [if_neg (show ¬ (false = true) by decide)] at H; have H' := zK_ H; clear H; have kL := zC20 aA; have kK := zC21 aA; have kJ := blk_frozen aA.out 0; have kI := blk_frozen aA.out 1; go_wp2; (go_loopg [5, 19] kj2 (fun kq v5 v19 w' => ∃ (eH : Int) (eU : Int), v5 = .int .i64 eH ∧ v19 = .int .i64 eU ∧ Aside0 (impl_Valence.l0 kq a1 eH aC (aC.length : Int) eU = some r) ∧ Aside0 (kq ≤ kj2) ∧ Aside0 (w'.heap[aE]? = some (.cells #[.int .i64 aD, (.slice aH aC.length aG)] 30 (0, 0))) ∧ Aside0 (Below w.heap.size w w'))); case atStart => exact ⟨(0), (0), zz6, zz6, H', ⟨Nat.le_refl _⟩, ⟨zz1⟩, ⟨zz0⟩⟩
   case round =>
    clear H'; (try clear p2); (try clear c5); (try clear fX); (try clear c7); (try clear c8); (try clear jQ); (try clear jP); (try clear kL); (try clear kK); (try clear jO); (try clear jN); (try clear kJ); (try clear kI); (try clear p2); obtain ⟨eH, eU, rfl, rfl, HA, HK2, aA, HB⟩ := hrel
    cases gk with
    | zero => exact absurd HA.out (by simp [impl_Valence.l0])
    | succ k2 =>
     have H := HA.out; clear HA; simp only [impl_Valence.l0] at H; by_cases c9 : eU < (aC.length : Int); rotate_left
     ·rw [if_neg c9] at H; have lA := decide_eq_false c9; clear c9; obtain rfl := Option.some.inj H; go_wp2; go_ret; exact ⟨zz10, zz0⟩
     rw [if_pos c9] at H; have lA := decide_eq_true c9; clear c9; by_cases c10 : 0 ≤ eU; rotate_left
     ·rw [if_neg c10] at H; exact absurd H (by simp)
     rw [if_pos c10] at H; have g6 := decide_eq_true c10; clear c10; by_cases c11 : eU < (aC.length : Int); rotate_left
     ·rw [if_neg c11] at H; exact absurd H (by simp)
     rw [if_pos c11] at H; have nP := decide_eq_true c11; clear c11; by_cases c12 : ((rd_T76 aC eU).f0) = a1
     ·rw [if_pos c12] at H; have mJ : (((rd_T76 aC eU).f0) == a1) = true := beq_iff_eq.mpr c12; have u9 : (((rd_T76 aC eU).f0) != a1) = false := bne_eq_false_iff_eq.mpr c12; clear c12; have H' := zK_ H; clear H; have p102 : 0 ≤ (eU : Int) := of_decide_eq_true zz4; have q102 : eU < (aC.length : Int) := of_decide_eq_true zz4; obtain ⟨eS, e102, cZ, dH⟩ := at_T76 cB.out eU p102 q102; cases e102; replace cZ := (HB.out.cell (World.block_lt_of_cell? w _ cZ)).trans cZ; replace dH := (HB.out.cell (World.block_lt_of_cell? w _ dH)).trans dH; replace p102 := eq_true p102; replace q102 := eq_true q102; (go_wp2_with (first | ((with_reducible refine gate_dst (N := 7) rfl ?_); refine box_event ?hg (N := 7) ?hd (cs := #[.int .i64 0, .int .i64 0]) (t := 76) ?hr ?_; (case hd => rfl); (case hg => rfl); (case hr => exact zz21); intro cF hg w13 hbox hb; have n_ := zA7 (blk_below (g := aE) (o := .cells #[.int .i64 aD, .slice (some eS) aC.length aG] 30 (0, 0)) zz1 hb) (below_step zz0 hb) hbox (zz47 : w.heap.size ≤ cF) (zz47 : w.heap.size ≤ cF) (zz68 : aE ≠ cF) (zz69 : cF ≠ aE); clear aA HB; obtain ⟨aA, HB, bS, GW103, GE103, dG, dQ⟩ := n_; clear hb hbox hg; have xY := dQ.out; have xU := dG.out; have gP := zC20 bS; have gO := zC21 bS; have gI := blk_frozen bS.out 0; have gH := blk_frozen bS.out 1))); go_roundg k2; (case measure => have := HJ2.out; have := HK2.out; omega); case rel => exact ⟨(wrap64 (eH + 1)), (wrap64 (eU + 1)), zz6, zz6, H', ⟨by have := HJ2.out; have := HK2.out; omega⟩, ⟨zz37⟩, ⟨zz55⟩⟩
     rw [if_neg c12] at H; have mJ : (((rd_T76 aC eU).f0) == a1) = false := beq_eq_false_iff_ne.mpr c12; have u9 : (((rd_T76 aC eU).f0) != a1) = true := bne_iff_ne.mpr c12; by_cases c16 : ((rd_T76 aC eU).f1) = a1; rotate_left
     ·rw [if_neg c16] at H; have kD : (((rd_T76 aC eU).f1) == a1) = false := beq_eq_false_iff_ne.mpr c16; have yK : (((rd_T76 aC eU).f1) != a1) = true := bne_iff_ne.mpr c16; have H' := zK_ H; clear H; have p102 : 0 ≤ (eU : Int) := of_decide_eq_true zz4; have q102 : eU < (aC.length : Int) := of_decide_eq_true zz4; obtain ⟨eS, e102, cZ, dH⟩ := at_T76 cB.out eU p102 q102; cases e102; replace cZ := (HB.out.cell (World.block_lt_of_cell? w _ cZ)).trans cZ; replace dH := (HB.out.cell (World.block_lt_of_cell? w _ dH)).trans dH; replace p102 := eq_true p102; replace q102 := eq_true q102; (go_wp2_with (first | ((with_reducible refine gate_dst (N := 7) rfl ?_); refine box_event ?hg (N := 7) ?hd (cs := #[.int .i64 0, .int .i64 0]) (t := 76) ?hr ?_; (case hd => rfl); (case hg => rfl); (case hr => exact zz21); intro cF hg w20 hbox hb; have n_ := zA7 (blk_below (g := aE) (o := .cells #[.int .i64 aD, .slice (some eS) aC.length aG] 30 (0, 0)) zz1 hb) (below_step zz0 hb) hbox (zz47 : w.heap.size ≤ cF) (zz47 : w.heap.size ≤ cF) (zz68 : aE ≠ cF) (zz69 : cF ≠ aE); clear aA HB; obtain ⟨aA, HB, bS, GW103, GE103, dG, dQ⟩ := n_; clear hb hbox hg; have P0 := dQ.out; have OV := dG.out; have kA := zC20 bS; have j9 := zC21 bS; have j4 := blk_frozen bS.out 0; have j3 := blk_frozen bS.out 1))); go_roundg k2; (case measure => have := HJ2.out; have := HK2.out; omega); case rel => exact ⟨(eH), (wrap64 (eU + 1)), zz6, zz6, H', ⟨by have := HJ2.out; have := HK2.out; omega⟩, ⟨zz37⟩, ⟨zz55⟩⟩
     rw [if_pos c16] at H; have kD : (((rd_T76 aC eU).f1) == a1) = true := beq_iff_eq.mpr c16; have yK : (((rd_T76 aC eU).f1) != a1) = false := bne_eq_false_iff_eq.mpr c16; clear c16; have H' := zK_ H; clear H; have p102 : 0 ≤ (eU : Int) := of_decide_eq_true zz4; have q102 : eU < (aC.length : Int) := of_decide_eq_true zz4; obtain ⟨eS, e102, cZ, dH⟩ := at_T76 cB.out eU p102 q102; cases e102; replace cZ := (HB.out.cell (World.block_lt_of_cell? w _ cZ)).trans cZ; replace dH := (HB.out.cell (World.block_lt_of_cell? w _ dH)).trans dH; replace p102 := eq_true p102; replace q102 := eq_true q102; (go_wp2_with (first | ((with_reducible refine gate_dst (N := 7) rfl ?_); refine box_event ?hg (N := 7) ?hd (cs := #[.int .i64 0, .int .i64 0]) (t := 76) ?hr ?_; (case hd => rfl); (case hg => rfl); (case hr => exact zz21); intro cF hg w17 hbox hb; have n_ := zA7 (blk_below (g := aE) (o := .cells #[.int .i64 aD, .slice (some eS) aC.length aG] 30 (0, 0)) zz1 hb) (below_step zz0 hb) hbox (zz47 : w.heap.size ≤ cF) (zz47 : w.heap.size ≤ cF) (zz68 : aE ≠ cF) (zz69 : cF ≠ aE); clear aA HB; obtain ⟨aA, HB, bS, GW103, GE103, dG, dQ⟩ := n_; clear hb hbox hg; have qO := dQ.out; have qN := dG.out; have kC := zC20 bS; have kB := zC21 bS; have j6 := blk_frozen bS.out 0; have j5 := blk_frozen bS.out 1))); go_roundg k2; (case measure => have := HJ2.out; have := HK2.out; omega); case rel => exact ⟨(wrap64 (eH + 1)), (wrap64 (eU + 1)), zz6, zz6, H', ⟨by have := HJ2.out; have := HK2.out; omega⟩, ⟨zz37⟩, ⟨zz55⟩⟩
end Go.Proofs.Ytkcbinohpdhbgaa.P
end

section
namespace Go.Proofs.Ytkcbinohpdhbgaa.P
open Go.RowKit Go.Proofs.YtkcbinohpdhbgaaW.PrintWords Go.Proofs.YtkcbinohpdhbgaaW.PrintLast Go.Proofs.YtkcbinohpdhbgaaW.PrintMore
attribute [local go_sem] max2_int min2_int max_two min_two max_three min_three max_four min_four
set_option linter.unusedVariables false
set_option linter.unusedSimpArgs false
mutual
def impl_Multiplicity.j0 : Nat → Int → Int → Bool → Int → List (S76) → Option (Int)
 | 0, _, _, _, _, _ => none
 | k + 1, x1, x2, tX, aY, aX => if tX = true then (some 0) else (impl_Multiplicity.l0 k x1 x2 0 aX (aX.length : Int) 0)
def impl_Multiplicity.l0 : Nat → Int → Int → Int → List (S76) → Int → Int → Option (Int)
 | 0, _, _, _, _, _, _ => none
 | k + 1, x1, x2, x7, rM, GF, xP => if xP < GF then (if 0 ≤ xP then (if xP < (rM.length : Int) then (if ((rd_T76 rM xP).f0) = (mn x1 x2) then (if ((rd_T76 rM xP).f1) = (mx x1 x2) then (impl_Multiplicity.l0 k x1 x2 (wrap64 (x7 + 1)) rM GF (wrap64 (xP + 1))) else (impl_Multiplicity.l0 k x1 x2 x7 rM GF (wrap64 (xP + 1)))) else (impl_Multiplicity.l0 k x1 x2 x7 rM GF (wrap64 (xP + 1)))) else (none)) else (none)) else (some x7)
end
def impl_Multiplicity.f (k : Nat) (aD : Int) (aC : List (S76)) (a1 : Int) (a2 : Int) : Option (Int) := if (mn a1 a2) < 0 then (impl_Multiplicity.j0 k a1 a2 true aD aC) else (if (mx a1 a2) ≥ aD then (impl_Multiplicity.j0 k a1 a2 true aD aC) else (impl_Multiplicity.j0 k a1 a2 (a1 == a2) aD aC))
theorem impl_Multiplicity.mono_l : ∀ k, (∀ y0 y1 y2 y3 y4, LeO (impl_Multiplicity.j0 k y0 y1 y2 y3 y4) (impl_Multiplicity.j0 (k + 1) y0 y1 y2 y3 y4)) ∧ (∀ y0 y1 y2 y3 y4 y5, LeO (impl_Multiplicity.l0 k y0 y1 y2 y3 y4 y5) (impl_Multiplicity.l0 (k + 1) y0 y1 y2 y3 y4 y5))
 | 0 => ⟨fun _ _ _ _ _ r h => by simp [impl_Multiplicity.j0] at h, fun _ _ _ _ _ _ r h => by simp [impl_Multiplicity.l0] at h⟩
 | k + 1 => by
  obtain ⟨ih0, ih1⟩ := impl_Multiplicity.mono_l k
  refine ⟨?_, ?_⟩
  ·intro y0 y1 y2 y3 y4
   unfold impl_Multiplicity.j0
   exact zm1
  ·intro y0 y1 y2 y3 y4 y5
   unfold impl_Multiplicity.l0
   exact zm1
theorem impl_Multiplicity.mono : ∀ a0 a1 a2 a3 k, LeO (impl_Multiplicity.f k a0 a1 a2 a3) (impl_Multiplicity.f (k + 1) a0 a1 a2 a3) := by
 intro a0 a1 a2 a3 k; obtain ⟨ih0, ih1⟩ := impl_Multiplicity.mono_l k; unfold impl_Multiplicity.f; exact zm1
theorem impl_Multiplicity.calls (k : Nat) (aD : Int) (aH : Option Addr) (aG : Nat) (aC : List (S76)) (a1 : Int) (a2 : Int) (r : Int) (w : World) (hr0_1 : Kd.C k76 w aH aC.length aC) (hc0_1 : aC.length ≤ aG) (h : impl_Multiplicity.f k aD aC a1 a2 = some r) :
  Calls Try.prog 100 #[.agg #[.int .i64 aD, .slice aH aC.length aG], .int .i64 a1, .int .i64 a2] w fun e w' => e = .returned (.int .i64 r) ∧ Below w.heap.size w w' := by
 have hu30 := Try.underlying30; have hu76 := Try.underlying76; have cB := zK_ hr0_1; have bO := zK_ hc0_1; clear hr0_1 hc0_1; have HB := zK_ (Below.refl w.heap.size w); have H : (if (mn a1 a2) < 0 then (impl_Multiplicity.j0 k a1 a2 true aD aC) else (if (mx a1 a2) ≥ aD then (impl_Multiplicity.j0 k a1 a2 true aD aC) else (impl_Multiplicity.j0 k a1 a2 (a1 == a2) aD aC))) = some r := h; clear h; have HC4 := zK_ H; clear H; go_enter Try.func100, Try.ntmps100; (go_upto_region 1 with (first | ((with_reducible refine gate_dst (N := 3) rfl ?_); (try (refine gate_guard (by rfl) ?_; dsimp only)); refine box_event ?hg (N := 3) ?hd (cs := #[.int .i64 aD, .slice aH aC.length aG]) (t := 30) ?hr ?_; (case hd => rfl); (case hg => rfl); (case hr => exact zz21); intro aE hg w5 hbox hb; have n_ := zA4 (below_step zz2 hb) hbox (zz18 : w.heap.size ≤ aE) (zz18 : w.heap.size ≤ aE); clear HB; obtain ⟨HB, aA, GW101, GE101⟩ := n_; clear hb hbox hg))); (try simp only [Act.put, List.setIfInBounds_toArray, List.set_cons_zero, List.set_cons_succ]); go_cut [26] (fun v26 wc => ∃ (kq : Nat) (r6 : Bool), v26 = .bool r6 ∧ Aside0 (impl_Multiplicity.j0 kq a1 a2 r6 aD aC = some r) ∧ Aside0 (kq ≤ k) ∧ Aside0 (wc.heap[aE]? = some (.cells #[.int .i64 aD, (.slice aH aC.length aG)] 30 (0, 0))) ∧ Aside0 (Below w.heap.size w wc))
 case first =>
  have H := HC4.out; clear HC4; obtain ⟨rO, qQ⟩ : ∃ j_ : Int, (mn a1 a2) = j_ := ⟨_, rfl⟩; (replace H : (if (rO) < 0 then (impl_Multiplicity.j0 k a1 a2 true aD aC) else (if (mx a1 a2) ≥ aD then (impl_Multiplicity.j0 k a1 a2 true aD aC) else (impl_Multiplicity.j0 k a1 a2 (a1 == a2) aD aC))) = some r := by first | (rw [qQ] at H; exact H) | (simp only [qQ] at H ⊢; exact H)); have P7 : (if a2 < a1 then a2 else a1) = rO := qQ; by_cases c7 : (rO) < 0
  ·rw [if_pos c7] at H; have iM := decide_eq_true c7; clear c7; (first | rw [iM] | (simp only [i64_w, i32_w]; rw [iM]) | skip); have H' := zK_ H; clear H; go_wp2; (go_meet); case rel => exact ⟨_, (true), zz6, H', ⟨by first | omega | exact Nat.le_refl _⟩, ⟨zz1⟩, ⟨zz0⟩⟩
  rw [if_neg c7] at H; have iM := decide_eq_false c7; clear c7; (first | rw [iM] | (simp only [i64_w, i32_w]; rw [iM]) | skip); obtain ⟨sE, qP⟩ : ∃ j_ : Int, (mx a1 a2) = j_ := ⟨_, rfl⟩; (replace H : (if (sE) ≥ aD then (impl_Multiplicity.j0 k a1 a2 true aD aC) else (impl_Multiplicity.j0 k a1 a2 (a1 == a2) aD aC)) = some r := by first | (rw [qP] at H; exact H) | (simp only [qP] at H ⊢; exact H)); have BM : (if a1 < a2 then a2 else a1) = sE := qP; by_cases c9 : (sE) ≥ aD
  ·rw [if_pos c9] at H; have lA : decide (aD ≤ (sE)) = true := decide_eq_true c9; clear c9; have H' := zK_ H; clear H; have eF := zC20 aA; have eE := zC21 aA; have eD := blk_frozen aA.out 0; have eC := blk_frozen aA.out 1; go_wp2; (go_meet); case rel => exact ⟨_, (true), zz6, H', ⟨by first | omega | exact Nat.le_refl _⟩, ⟨zz1⟩, ⟨zz0⟩⟩
  rw [if_neg c9] at H; have lA : decide (aD ≤ (sE)) = false := decide_eq_false c9; clear c9; have H' := zK_ H; clear H; have mD := zC20 aA; have mC := zC21 aA; have lY := blk_frozen aA.out 0; have lX := blk_frozen aA.out 1; go_wp2; (go_meet); case rel => exact ⟨_, ((a1 == a2)), zz6, H', ⟨by first | omega | exact Nat.le_refl _⟩, ⟨zz1⟩, ⟨zz0⟩⟩
 case rest =>
  clear HC4; (try clear c1); (try clear p2); (try clear c7); (try clear iM); (try clear c9); (try clear lA); (try clear c10); (try clear eF); (try clear eE); (try clear mD); (try clear mC); (try clear eD); (try clear eC); (try clear lY); (try clear lX); obtain ⟨kq, r6, rfl, HA, HJ3, aA, HB⟩ := hcut
  cases kq with
  | zero => exact absurd HA.out (by simp [impl_Multiplicity.j0])
  | succ kj3 =>
   have H := HA.out; clear HA; simp only [impl_Multiplicity.j0] at H; by_cases c12 : r6 = true
   ·subst c12; rw [if_pos rfl] at H; obtain rfl := Option.some.inj H; go_wp2; go_ret; exact ⟨zz10, zz0⟩
   replace c12 := Bool.eq_false_iff.mpr c12; subst c12; rw [if_neg (show ¬ (false = true) by decide)] at H; have H' := zK_ H; clear H; have qA := zC20 aA; have pZ := zC21 aA; have pO := blk_frozen aA.out 0; have pN := blk_frozen aA.out 1; go_wp2; (go_loopg [7, 30] kj3 (fun kq v7 v30 w' => ∃ (jM : Int) (dZ : Int), v7 = .int .i64 jM ∧ v30 = .int .i64 dZ ∧ Aside0 (impl_Multiplicity.l0 kq a1 a2 jM aC (aC.length : Int) dZ = some r) ∧ Aside0 (kq ≤ kj3) ∧ Aside0 (w'.heap[aE]? = some (.cells #[.int .i64 aD, (.slice aH aC.length aG)] 30 (0, 0))) ∧ Aside0 (Below w.heap.size w w'))); case atStart => exact ⟨(0), (0), zz6, zz6, H', ⟨Nat.le_refl _⟩, ⟨zz1⟩, ⟨zz0⟩⟩
   case round =>
    clear H'; (try clear c1); (try clear p2); (try clear c7); (try clear iM); (try clear c9); (try clear lA); (try clear c10); (try clear c12); (try clear eF); (try clear eE); (try clear mD); (try clear mC); (try clear qA); (try clear pZ); (try clear eD); (try clear eC); (try clear lY); (try clear lX); (try clear pO); (try clear pN); (try clear p2); obtain ⟨jM, dZ, rfl, rfl, HA, HK2, aA, HB⟩ := hrel
    cases gk with
    | zero => exact absurd HA.out (by simp [impl_Multiplicity.l0])
    | succ k2 =>
     have H := HA.out; clear HA; simp only [impl_Multiplicity.l0] at H; by_cases c14 : dZ < (aC.length : Int); rotate_left
     ·rw [if_neg c14] at H; have jB := decide_eq_false c14; clear c14; obtain rfl := Option.some.inj H; go_wp2; go_ret; exact ⟨zz10, zz0⟩
     rw [if_pos c14] at H; have jB := decide_eq_true c14; clear c14; by_cases c15 : 0 ≤ dZ; rotate_left
     ·rw [if_neg c15] at H; exact absurd H (by simp)
     rw [if_pos c15] at H; have i6 := decide_eq_true c15; clear c15; by_cases c16 : dZ < (aC.length : Int); rotate_left
     ·rw [if_neg c16] at H; exact absurd H (by simp)
     rw [if_pos c16] at H; have kD := decide_eq_true c16; clear c16; obtain ⟨i5, jY⟩ : ∃ j_ : Int, (mn a1 a2) = j_ := ⟨_, rfl⟩; (replace H : (if ((rd_T76 aC dZ).f0) = (i5) then (if ((rd_T76 aC dZ).f1) = (mx a1 a2) then (impl_Multiplicity.l0 k2 a1 a2 (wrap64 (jM + 1)) aC (aC.length : Int) (wrap64 (dZ + 1))) else (impl_Multiplicity.l0 k2 a1 a2 jM aC (aC.length : Int) (wrap64 (dZ + 1)))) else (impl_Multiplicity.l0 k2 a1 a2 jM aC (aC.length : Int) (wrap64 (dZ + 1)))) = some r := by first | (rw [jY] at H; exact H) | (simp only [jY] at H ⊢; exact H)); have pC : (if a2 < a1 then a2 else a1) = i5 := jY; by_cases c18 : ((rd_T76 aC dZ).f0) = (i5); rotate_left
     ·rw [if_neg c18] at H; have nC : (((rd_T76 aC dZ).f0) == (i5)) = false := beq_eq_false_iff_ne.mpr c18; have nB : (((rd_T76 aC dZ).f0) != (i5)) = true := bne_iff_ne.mpr c18; have H' := zK_ H; clear H; have p102 : 0 ≤ (dZ : Int) := of_decide_eq_true zz4; have q102 : dZ < (aC.length : Int) := of_decide_eq_true zz4; obtain ⟨eS, e102, cZ, dH⟩ := at_T76 cB.out dZ p102 q102; cases e102; replace cZ := (HB.out.cell (World.block_lt_of_cell? w _ cZ)).trans cZ; replace dH := (HB.out.cell (World.block_lt_of_cell? w _ dH)).trans dH; replace p102 := eq_true p102; replace q102 := eq_true q102; (go_wp2_with (first | ((with_reducible refine gate_dst (N := 9) rfl ?_); (try (refine gate_guard (by rfl) ?_; dsimp only)); refine box_event ?hg (N := 9) ?hd (cs := #[.int .i64 0, .int .i64 0]) (t := 76) ?hr ?_; (case hd => rfl); (case hg => rfl); (case hr => exact zz21); intro cF hg w27 hbox hb; have n_ := zA7 (blk_below (g := aE) (o := .cells #[.int .i64 aD, .slice (some eS) aC.length aG] 30 (0, 0)) zz1 hb) (below_step zz0 hb) hbox (zz47 : w.heap.size ≤ cF) (zz47 : w.heap.size ≤ cF) (zz68 : aE ≠ cF) (zz69 : cF ≠ aE); clear aA HB; obtain ⟨aA, HB, bS, GW103, GE103, dG, dQ⟩ := n_; clear hb hbox hg; have BI := dQ.out; have AU := dG.out; have oE := zC20 bS; have oD := zC21 bS; have n5 := blk_frozen bS.out 0; have n4 := blk_frozen bS.out 1))); go_roundg k2; (case measure => have := HJ3.out; have := HK2.out; omega); case rel => exact ⟨(jM), (wrap64 (dZ + 1)), zz6, zz6, H', ⟨zz134⟩, ⟨zz37⟩, ⟨zz55⟩⟩
     rw [if_pos c18] at H; have nC : (((rd_T76 aC dZ).f0) == (i5)) = true := beq_iff_eq.mpr c18; have nB : (((rd_T76 aC dZ).f0) != (i5)) = false := bne_eq_false_iff_eq.mpr c18; clear c18; obtain ⟨rS, uK⟩ : ∃ j_ : Int, (mx a1 a2) = j_ := ⟨_, rfl⟩; (replace H : (if ((rd_T76 aC dZ).f1) = (rS) then (impl_Multiplicity.l0 k2 a1 a2 (wrap64 (jM + 1)) aC (aC.length : Int) (wrap64 (dZ + 1))) else (impl_Multiplicity.l0 k2 a1 a2 jM aC (aC.length : Int) (wrap64 (dZ + 1)))) = some r := by first | (rw [uK] at H; exact H) | (simp only [uK] at H ⊢; exact H)); have L7 : (if a1 < a2 then a2 else a1) = rS := uK; by_cases c20 : ((rd_T76 aC dZ).f1) = (rS); rotate_left
     ·rw [if_neg c20] at H; have oN : (((rd_T76 aC dZ).f1) == (rS)) = false := beq_eq_false_iff_ne.mpr c20; have u6 : (((rd_T76 aC dZ).f1) != (rS)) = true := bne_iff_ne.mpr c20; have H' := zK_ H; clear H; have p102 : 0 ≤ (dZ : Int) := of_decide_eq_true zz4; have q102 : dZ < (aC.length : Int) := of_decide_eq_true zz4; obtain ⟨eS, e102, cZ, dH⟩ := at_T76 cB.out dZ p102 q102; cases e102; replace cZ := (HB.out.cell (World.block_lt_of_cell? w _ cZ)).trans cZ; replace dH := (HB.out.cell (World.block_lt_of_cell? w _ dH)).trans dH; replace p102 := eq_true p102; replace q102 := eq_true q102; (go_wp2_with (first | ((with_reducible refine gate_dst (N := 9) rfl ?_); (try (refine gate_guard (by rfl) ?_; dsimp only)); refine box_event ?hg (N := 9) ?hd (cs := #[.int .i64 0, .int .i64 0]) (t := 76) ?hr ?_; (case hd => rfl); (case hg => rfl); (case hr => exact zz21); intro cF hg w24 hbox hb; have n_ := zA7 (blk_below (g := aE) (o := .cells #[.int .i64 aD, .slice (some eS) aC.length aG] 30 (0, 0)) zz1 hb) (below_step zz0 hb) hbox (zz47 : w.heap.size ≤ cF) (zz47 : w.heap.size ≤ cF) (zz68 : aE ≠ cF) (zz69 : cF ≠ aE); clear aA HB; obtain ⟨aA, HB, bS, GW103, GE103, dG, dQ⟩ := n_; clear hb hbox hg; have PX := dQ.out; have OS := dG.out; have pY := zC20 bS; have pX := zC21 bS; have pM := blk_frozen bS.out 0; have pL := blk_frozen bS.out 1))); go_roundg k2; (case measure => have := HJ3.out; have := HK2.out; omega); case rel => exact ⟨(jM), (wrap64 (dZ + 1)), zz6, zz6, H', ⟨zz134⟩, ⟨zz37⟩, ⟨zz55⟩⟩
     rw [if_pos c20] at H; have oN : (((rd_T76 aC dZ).f1) == (rS)) = true := beq_iff_eq.mpr c20; have u6 : (((rd_T76 aC dZ).f1) != (rS)) = false := bne_eq_false_iff_eq.mpr c20; clear c20; have H' := zK_ H; clear H; have p102 : 0 ≤ (dZ : Int) := of_decide_eq_true zz4; have q102 : dZ < (aC.length : Int) := of_decide_eq_true zz4; obtain ⟨eS, e102, cZ, dH⟩ := at_T76 cB.out dZ p102 q102; cases e102; replace cZ := (HB.out.cell (World.block_lt_of_cell? w _ cZ)).trans cZ; replace dH := (HB.out.cell (World.block_lt_of_cell? w _ dH)).trans dH; replace p102 := eq_true p102; replace q102 := eq_true q102; (go_wp2_with (first | ((with_reducible refine gate_dst (N := 9) rfl ?_); (try (refine gate_guard (by rfl) ?_; dsimp only)); refine box_event ?hg (N := 9) ?hd (cs := #[.int .i64 0, .int .i64 0]) (t := 76) ?hr ?_; (case hd => rfl); (case hg => rfl); (case hr => exact zz21); intro cF hg w21 hbox hb; have n_ := zA7 (blk_below (g := aE) (o := .cells #[.int .i64 aD, .slice (some eS) aC.length aG] 30 (0, 0)) zz1 hb) (below_step zz0 hb) hbox (zz47 : w.heap.size ≤ cF) (zz47 : w.heap.size ≤ cF) (zz68 : aE ≠ cF) (zz69 : cF ≠ aE); clear aA HB; obtain ⟨aA, HB, bS, GW103, GE103, dG, dQ⟩ := n_; clear hb hbox hg; have t8 := dQ.out; have t7 := dG.out; have iX := zC20 bS; have iW := zC21 bS; have iV := blk_frozen bS.out 0; have iU := blk_frozen bS.out 1))); go_roundg k2; (case measure => have := HJ3.out; have := HK2.out; omega); case rel => exact ⟨(wrap64 (jM + 1)), (wrap64 (dZ + 1)), zz6, zz6, H', ⟨zz134⟩, ⟨zz37⟩, ⟨zz55⟩⟩
end Go.Proofs.Ytkcbinohpdhbgaa.P
end

section
namespace Go.Proofs.Ytkcbinohpdhbgaa.P
open Go.RowKit Go.Proofs.YtkcbinohpdhbgaaW.PrintWords Go.Proofs.YtkcbinohpdhbgaaW.PrintLast Go.Proofs.YtkcbinohpdhbgaaW.PrintMore
attribute [local go_sem] max2_int min2_int max_two min_two max_three min_three max_four min_four
set_option linter.unusedVariables false
set_option linter.unusedSimpArgs false
mutual
def impl_LaplacianOf.l0 : Nat → List (List Int) → Int → Int → List (S76) → Option ((List (List Int)))
 | 0, _, _, _, _ => none
 | k + 1, x3, x4, aY, aX => if x4 < aY then (if 0 ≤ aY then (if (aY : Int).toNat ≤ 35184372088832 then ((some (List.replicate (aY : Int).toNat 0 : List Int)).bind fun oI => (impl_LaplacianOf.l1 k x3 x4 oI (oI.length : Int) 0 aY aX)) else (none)) else (none)) else (some x3)
def impl_LaplacianOf.l1 : Nat → List (List Int) → Int → List Int → Int → Int → Int → List (S76) → Option ((List (List Int)))
 | 0, _, _, _, _, _, _, _ => none
 | k + 1, x3, x4, x5, yU, qH, aY, aX => if qH < yU then ((impl_Multiplicity.f k aY aX x4 qH).bind fun bT => (if 0 ≤ qH then (if qH < (x5.length : Int) then (impl_LaplacianOf.l1 k x3 x4 (x5.set (qH : Int).toNat (wrap64 (-bT))) yU (wrap64 (qH + 1)) aY aX) else (none)) else (none))) else ((impl_Valence.f k aY aX x4).bind fun d9 => (if 0 ≤ x4 then (if x4 < (x5.length : Int) then (if x3.length < 5864062014805 then (impl_LaplacianOf.l0 k (x3 ++ [(x5.set (x4 : Int).toNat d9)]) (wrap64 (x4 + 1)) aY aX) else (none)) else (none)) else (none)))
end
def impl_LaplacianOf.f (k : Nat) (aD : Int) (aC : List (S76)) : Option ((List (List Int))) := (impl_GraphOk.f aD aC).bind fun aT => (if aT = true then (impl_LaplacianOf.l0 k ([] : List (List Int)) 0 aD aC) else (some ([] : List (List Int))))
theorem impl_LaplacianOf.mono_l : ∀ k, (∀ y0 y1 y2 y3, LeO (impl_LaplacianOf.l0 k y0 y1 y2 y3) (impl_LaplacianOf.l0 (k + 1) y0 y1 y2 y3)) ∧ (∀ y0 y1 y2 y3 y4 y5 y6, LeO (impl_LaplacianOf.l1 k y0 y1 y2 y3 y4 y5 y6) (impl_LaplacianOf.l1 (k + 1) y0 y1 y2 y3 y4 y5 y6))
 | 0 => ⟨fun _ _ _ _ r h => by simp [impl_LaplacianOf.l0] at h, fun _ _ _ _ _ _ _ r h => by simp [impl_LaplacianOf.l1] at h⟩
 | k + 1 => by
  obtain ⟨ih0, ih1⟩ := impl_LaplacianOf.mono_l k
  refine ⟨?_, ?_⟩
  ·intro y0 y1 y2 y3
   unfold impl_LaplacianOf.l0
   exact zm8
  ·intro y0 y1 y2 y3 y4 y5 y6
   unfold impl_LaplacianOf.l1
   exact zm8
theorem impl_LaplacianOf.mono : ∀ a0 a1 k, LeO (impl_LaplacianOf.f k a0 a1) (impl_LaplacianOf.f (k + 1) a0 a1) := by
 intro a0 a1 k; obtain ⟨ih0, ih1⟩ := impl_LaplacianOf.mono_l k; unfold impl_LaplacianOf.f; exact zm8
theorem impl_LaplacianOf.calls (k : Nat) (aD : Int) (aH : Option Addr) (aG : Nat) (aC : List (S76)) (r : List (List Int)) (w : World) (hr0_1 : Kd.C k76 w aH aC.length aC) (hc0_1 : aC.length ≤ aG) (h : impl_LaplacianOf.f k aD aC = some r) :
  Calls Try.prog 81 #[.agg #[.int .i64 aD, .slice aH aC.length aG]] w fun e w' => ∃ v0_ : Value, e = .returned (v0_) ∧ Kd.S (Kd.slice 3 (Kd.int .i64)) 26 w' w.heap.size (fun _ => True) v0_ r ∧ Below w.heap.size w w' := by
 have hu30 := Try.underlying30; have cB := zK_ hr0_1; have bO := zK_ hc0_1; clear hr0_1 hc0_1; have HB := zK_ (Below.refl w.heap.size w); have H : ((impl_GraphOk.f aD aC).bind fun aT => (if aT = true then (impl_LaplacianOf.l0 k ([] : List (List Int)) 0 aD aC) else (some ([] : List (List Int))))) = some r := h; clear h; obtain ⟨aT, A20, H⟩ := zO_ H; (try dsimp only at H); have A2 := zK_ A20; clear A20; by_cases c3 : aT = true; rotate_left
 ·replace c3 := Bool.eq_false_iff.mpr c3; subst c3; rw [if_neg (show ¬ (false = true) by decide)] at H; obtain rfl := Option.some.inj H; go_enter Try.func81, Try.ntmps81; (go_wp2_with (first | ((with_reducible refine gate_dst (N := 1) rfl ?_); refine box_event ?hg (N := 1) ?hd (cs := #[.int .i64 aD, .slice aH aC.length aG]) (t := 30) ?hr ?_; (case hd => rfl); (case hg => rfl); (case hr => exact zz21); intro aE hg w34 hbox hb; have n_ := zA4 (below_step zz2 hb) hbox (zz18 : w.heap.size ≤ aE) (zz18 : w.heap.size ≤ aE); clear HB; obtain ⟨HB, aA, GW101, GE101⟩ := n_; clear hb hbox hg; have j8 := zC20 aA; have j7 := zC21 aA; have j1 := blk_frozen aA.out 0; have jZ := blk_frozen aA.out 1) | ((with_reducible refine gate_callee (f := 39) rfl ?_); refine goesL_ (some 8) rfl rfl Try.func39 (by kernel_rfl) rfl #[.agg #[.int .i64 aD, .slice aH aC.length aG]] rfl zz3 ?_; (with_reducible refine (impl_GraphOk.calls aD _ _ aC false _ ?side1 ?side2 A2.out).mono ?_); (case side1 => exact zz5); (case side2 => exact bO.out); rintro e w36 ⟨rfl, hb⟩; refine ⟨_, rfl, ?_⟩; have n_ := zA2 (blk_below (g := aE) (o := .cells #[.int .i64 aD, .slice aH aC.length aG] 30 (0, 0)) zz1 hb) (below_step zz0 hb); clear aA HB; obtain ⟨aA, HB⟩ := n_; clear hb))); go_ret; exact ⟨_, zz10, by first | exact Kd.S_nil _ _ _ _ _ | exact Kd.N_nil _ _ _ _ _ | exact Kd.V_nil _ _ _ _ _ | exact Kd.Q_nil _ _ _ _ _ | exact Kd.R_nil _ _ _ _ _, zz0⟩
 subst c3; rw [if_pos rfl] at H; have H' := zK_ H; clear H; go_enter Try.func81, Try.ntmps81; (go_wp2_with (first | ((with_reducible refine gate_dst (N := 1) rfl ?_); refine box_event ?hg (N := 1) ?hd (cs := #[.int .i64 aD, .slice aH aC.length aG]) (t := 30) ?hr ?_; (case hd => rfl); (case hg => rfl); (case hr => exact zz21); intro aE hg w4 hbox hb; have n_ := zA4 (below_step zz2 hb) hbox (zz18 : w.heap.size ≤ aE) (zz18 : w.heap.size ≤ aE); clear HB; obtain ⟨HB, aA, GW101, GE101⟩ := n_; clear hb hbox hg; have mR := zC20 aA; have mQ := zC21 aA; have nM := blk_frozen aA.out 0; have mP := blk_frozen aA.out 1) | ((with_reducible refine gate_callee (f := 39) rfl ?_); refine goesL_ (some 8) rfl rfl Try.func39 (by kernel_rfl) rfl #[.agg #[.int .i64 aD, .slice aH aC.length aG]] rfl zz3 ?_; (with_reducible refine (impl_GraphOk.calls aD _ _ aC true _ ?side1 ?side2 A2.out).mono ?_); (case side1 => exact zz5); (case side2 => exact bO.out); rintro e w6 ⟨rfl, hb⟩; refine ⟨_, rfl, ?_⟩; have n_ := zA2 (blk_below (g := aE) (o := .cells #[.int .i64 aD, .slice aH aC.length aG] 30 (0, 0)) zz1 hb) (below_step zz0 hb); clear aA HB; obtain ⟨aA, HB⟩ := n_; clear hb))); (go_loopg [3, 4] k (fun kq v3 v4 w' => ∃ (dF : List (List Int)) (bQ : Int), v4 = .int .i64 bQ ∧ Aside0 (impl_LaplacianOf.l0 kq dF bQ aD aC = some r) ∧ Aside0 (kq ≤ k) ∧ Aside0 (Kd.S (Kd.slice 3 (Kd.int .i64)) 26 w' w.heap.size (fun _ => True) v3 dF) ∧ Aside0 (w'.heap[aE]? = some (.cells #[.int .i64 aD, (.slice aH aC.length aG)] 30 (0, 0))) ∧ Aside0 (Below w.heap.size w w'))); case atStart => exact ⟨(([] : List (List Int))), (0), zz6, H', ⟨Nat.le_refl _⟩, ⟨by first | exact Kd.S_nil _ _ _ _ _ | exact Kd.N_nil _ _ _ _ _ | exact Kd.V_nil _ _ _ _ _ | exact Kd.Q_nil _ _ _ _ _ | exact Kd.R_nil _ _ _ _ _⟩, ⟨zz1⟩, ⟨zz0⟩⟩
 case round =>
  clear H'; (try clear p2); (try clear c3); (try clear mR); (try clear mQ); (try clear nM); (try clear mP); obtain ⟨dF, bQ, rfl, HA, HK1, bG, aA, HB⟩ := hrel
  cases gk with
  | zero => exact absurd HA.out (by simp [impl_LaplacianOf.l0])
  | succ k1 =>
   have H := HA.out; clear HA; simp only [impl_LaplacianOf.l0] at H; by_cases c7 : bQ < aD; rotate_left
   ·rw [if_neg c7] at H; have iM := decide_eq_false c7; clear c7; obtain rfl := Option.some.inj H; have xJ := zC20 aA; have xI := zC21 aA; have wR := blk_frozen aA.out 0; have wQ := blk_frozen aA.out 1; go_wp2; go_ret; exact ⟨_, zz10, by (with_reducible repeat (first | apply Kd.S_alloc | apply Kd.S_drewN | apply Kd.S_drew)); exact bG.out, zz0⟩
   rw [if_pos c7] at H; have iM := decide_eq_true c7; clear c7; by_cases c8 : 0 ≤ aD; rotate_left
   ·rw [if_neg c8] at H; exact absurd H (by simp)
   rw [if_pos c8] at H; have gV := eq_true c8; have rX : decide (0 ≤ aD) = true := decide_eq_true c8; clear c8; by_cases c9 : (aD : Int).toNat ≤ 35184372088832; rotate_left
   ·rw [if_neg c9] at H; exact absurd H (by simp)
   rw [if_pos c9] at H; have lA := eq_true c9; have zW : decide ((aD : Int).toNat ≤ 35184372088832) = true := decide_eq_true c9; clear c9; obtain ⟨oI, hy_⟩ : ∃ y_ : List Int, y_ = (List.replicate (aD : Int).toNat 0) := ⟨_, rfl⟩; (replace H : (impl_LaplacianOf.l1 k1 dF bQ oI (oI.length : Int) 0 aD aC) = some r := zzY); have yS := zK_ hy_; clear hy_; have H' := zK_ H; clear H; have eF := zC20 aA; have eE := zC21 aA; have eD := blk_frozen aA.out 0; have eC := blk_frozen aA.out 1; (go_wp2_with (first | ((with_reducible refine gate_dst (N := 18) rfl ?_); refine Kd.R_make (Kd.int .i64) _ 3 rfl (N := 18) rfl 26 _ _ rfl aD rfl rfl Try.underlying26 (.int .i64 0) 8 info3 rfl (by decide) (by omega) 0 (ok := fun _ => True) (okp := fun _ => True) rfl (fun _ hk => hk) trivial (of_decide_eq_true zz4) (Nat.le_trans (Nat.mul_le_mul_right _ (of_decide_eq_true zz4 : aD.toNat ≤ 35184372088832)) (by omega)) (Below.refl _ _) (Nat.le_refl _) ?_; intro v104 w11 ho12 hb hg_ hnew_; clear hg_ hnew_; (first | rw [← yS.out] at ho12 | (simp only [Int.reduceToNat] at ho12; rw [← yS.out] at ho12)); have n_ := zA4 (Kd.S_elder' (by (with_reducible repeat (first | apply Kd.S_alloc | apply Kd.S_drewN | apply Kd.S_drew)); exact bG.out) (Kd.R_base ho12) hb) (Kd.R_lower ho12 (below_size zz0)) (blk_below (g := aE) (o := .cells #[.int .i64 aD, .slice aH aC.length aG] 30 (0, 0)) zz1 hb) (below_step zz0 hb); clear bG aA HB; obtain ⟨bG, eN, aA, HB⟩ := n_; clear hb ho12; obtain ⟨Ao13, co13, nW⟩ := Kd.R_slice eN.out; subst nW))); (go_loopg [21] k1 (fun kq v21 w' => ∃ (eH : List Int) (iY : Int), v21 = .int .i64 iY ∧ Aside0 (impl_LaplacianOf.l1 kq dF bQ eH (oI.length : Int) iY aD aC = some r) ∧ Aside0 (kq ≤ k1) ∧ Aside0 (Kd.S (Kd.slice 3 (Kd.int .i64)) 26 w' w.heap.size (fun k_ => some k_ ≠ ((.slice Ao13 oI.length co13) : Value).ownBlock) u3 dF) ∧ Aside0 (Kd.R (Kd.int .i64) 3 w' w.heap.size (fun _ => True) (.slice Ao13 oI.length co13) eH) ∧ Aside0 (w'.heap[aE]? = some (.cells #[.int .i64 aD, (.slice aH aC.length aG)] 30 (0, 0))) ∧ Aside0 (Below w.heap.size w w'))); case atStart => exact ⟨(oI), (0), zz6, H', ⟨Nat.le_refl _⟩, ⟨by (with_reducible repeat (first | apply Kd.S_alloc | apply Kd.S_drewN | apply Kd.S_drew)); exact Kd.S_mono bG.out (fun _ hk => hk.2)⟩, ⟨by (with_reducible repeat (first | apply Kd.R_alloc | apply Kd.R_drewN | apply Kd.R_drew)); exact eN.out⟩, ⟨zz1⟩, ⟨zz0⟩⟩
   case round =>
    clear H'; (try clear p2); (try clear c3); (try clear c7); (try clear iM); (try clear c8); (try clear gV); (try clear rX); (try clear c9); (try clear lA); (try clear zW); (try clear eF); (try clear eE); (try clear mR); (try clear mQ); (try clear eD); (try clear eC); (try clear nM); (try clear mP); (try clear p2); obtain ⟨eH, iY, rfl, HA, HK2, bG, cO, aA, HB⟩ := hrel; have iC := (Kd.R_reads' cO.out).1; rw [iC] at cO; (try simp only [iC]); (try simp only [iC] at aA); (try simp only [iC] at bG)
    cases gk with
    | zero => exact absurd HA.out (by simp [impl_LaplacianOf.l1])
    | succ k2 =>
     have H := HA.out; clear HA; simp only [impl_LaplacianOf.l1] at H; by_cases c14 : iY < (oI.length : Int)
     ·rw [if_pos c14] at H; have jB := decide_eq_true c14; (try (have lG := jB; first | rw [iC] at lG | rw [← iC] at lG)); clear c14; obtain ⟨bT, A150, H⟩ := zO_ H; (try dsimp only at H); have A15 := zK_ A150; clear A150; by_cases c16 : 0 ≤ iY; rotate_left
      ·rw [if_neg c16] at H; exact absurd H (by simp)
      rw [if_pos c16] at H; have kD := decide_eq_true c16; clear c16; by_cases c17 : iY < (eH.length : Int); rotate_left
      ·rw [if_neg c17] at H; exact absurd H (by simp)
      rw [if_pos c17] at H; have jR := decide_eq_true c17; (try (have rA := jR; first | rw [iC] at rA | rw [← iC] at rA)); clear c17; obtain ⟨nT, hy_⟩ : ∃ y_ : List Int, y_ = (eH.set (iY : Int).toNat (wrap64 (-bT))) := ⟨_, rfl⟩; (replace H : (impl_LaplacianOf.l1 k2 dF bQ nT (oI.length : Int) (wrap64 (iY + 1)) aD aC) = some r := zzY); have nR := zK_ hy_; clear hy_; have H' := zK_ H; clear H; have kC := zC20 aA; have kB := zC21 aA; have j6 := blk_frozen aA.out 0; have j5 := blk_frozen aA.out 1; (go_wp2_with (first | ((with_reducible refine gate_callee (f := 100) rfl ?_); refine goesL_ (some 29) rfl rfl Try.func100 (by kernel_rfl) rfl #[.agg #[.int .i64 aD, .slice aH aC.length aG], .int .i64 bQ, .int .i64 iY] rfl zz3 ?_; (with_reducible refine (impl_Multiplicity.calls k2 aD _ _ aC bQ iY bT _ ?side1 ?side2 A15.out).mono ?_); (case side1 => exact zz5); (case side2 => exact bO.out); rintro e w20 ⟨rfl, hb⟩; refine ⟨_, rfl, ?_⟩; have n_ := zA4 (Kd.S_below (by (with_reducible repeat (first | apply Kd.S_alloc | apply Kd.S_drewN | apply Kd.S_drew)); exact bG.out) hb) (Kd.R_below zz51 hb) (blk_below (g := aE) (o := .cells #[.int .i64 aD, .slice aH aC.length aG] 30 (0, 0)) zz1 hb) (below_step zz0 hb); clear bG cO aA HB; obtain ⟨bG, cO, aA, HB⟩ := n_; clear hb; have p18 : 0 ≤ (iY : Int) := of_decide_eq_true zz4; have q18 : (iY : Int) < ((eH.length : Int) : Int) := of_decide_eq_true zz4; obtain ⟨go18, co18, uV, EE, gl18, cl18, HG18⟩ := Kd.R_form cO.out (by omega); (first | cases uV | (injection uV with ea_ en_ ec_; (first | subst ea_ | (injection ea_ with ea_; subst ea_)); subst ec_; clear en_)); have NS := zK_ EE; have RT := zK_ HG18; clear EE gl18 HG18; obtain ⟨JN, MT⟩ := Kd.R_celln 0 cO.out (iY : Int) p18 q18; replace p18 := eq_true p18; replace q18 := eq_true q18; obtain ⟨hy21_, hz21_⟩ := Kd.R_celln 0 cO.out (iY : Int) (of_decide_eq_true zz4) (of_decide_eq_true zz4); have AA := Kd.R_putg cO.out (iY : Int) (wrap64 (-bT))) | ((with_reducible refine gate_store (t := 3) (p := 31) rfl ?_); refine store_event (t := 3) (p := 31) (v := ?vo_w22) (w1 := (w20.setCell ⟨go18, (iY : Int).toNat, none⟩ (.int .i64 (wrap64 (-bT))))) ?hg ?ho ?hn ?hr ?_; (case ho => rfl); (case hg => rfl); (case hn => rfl); (case hr => exact zz21); intro w22 hw; have hg : w20.grownBy w22 (some go18) := (by rw [hw]; exact AA.2); have hp_ : Kd.R (Kd.int .i64) 3 w22 w.heap.size (fun _ => True) (.slice (some ⟨go18, 0, none⟩) eH.length co13) nT := (by rw [hw, nR.out]; exact AA.1); clear AA; have n_ := zA4 (Kd.S_after (v := (.slice (some ⟨go18, 0, none⟩) eH.length co13)) (v1 := (.slice (some ⟨go18, 0, none⟩) eH.length co13)) (ok := (fun _ => True)) (by (with_reducible repeat (first | apply Kd.S_alloc | apply Kd.S_drewN | apply Kd.S_drew)); exact Kd.S_mono bG.out (fun _ hk => ⟨trivial, hk⟩)) hg (.inl rfl)) hp_ (blk_grown (g := aE) (o := .cells #[.int .i64 aD, .slice aH aC.length aG] 30 (0, 0)) zz1 hg (Kd.R_ne cO.out aA.out (by decide))) (by rw [hw]; exact below_set (HB.out) NS.out : Below w.heap.size w w22); clear bG cO aA HB; obtain ⟨bG, cO, aA, HB⟩ := n_; clear hg hw hp_))); (try simp only [← iC]); go_roundg k2; (case measure => have := HK1.out; have := HK2.out; omega); case rel => exact ⟨(nT), (wrap64 (iY + 1)), zz6, H', ⟨by have := HK1.out; have := HK2.out; omega⟩, ⟨by (try simp only [iC]); (with_reducible repeat (first | apply Kd.S_alloc | apply Kd.S_drewN | apply Kd.S_drew)); exact Kd.S_mono bG.out (fun _ hk => hk.2)⟩, ⟨by (try simp only [iC]); (with_reducible repeat (first | apply Kd.R_alloc | apply Kd.R_drewN | apply Kd.R_drew)); exact cO.out⟩, ⟨by (try simp only [iC]); (with_reducible repeat (first | refine blk_drewN ?_ _ | refine blk_drew ?_ | refine blk_alloc ?_ _)); exact aA.out⟩, ⟨zz0⟩⟩
     rw [if_neg c14] at H; have jB := decide_eq_false c14; (try (have lG := jB; first | rw [iC] at lG | rw [← iC] at lG)); clear c14; obtain ⟨d9, A230, H⟩ := zO_ H; (try dsimp only at H); have A23 := zK_ A230; clear A230; by_cases c24 : 0 ≤ bQ; rotate_left
     ·rw [if_neg c24] at H; exact absurd H (by simp)
     rw [if_pos c24] at H; have o2 := decide_eq_true c24; clear c24; by_cases c25 : bQ < (eH.length : Int); rotate_left
     ·rw [if_neg c25] at H; exact absurd H (by simp)
     rw [if_pos c25] at H; have FI := decide_eq_true c25; (try (have q4 := FI; first | rw [iC] at q4 | rw [← iC] at q4)); clear c25; obtain ⟨dP, hy_⟩ : ∃ y_ : List Int, y_ = (eH.set (bQ : Int).toNat d9) := ⟨_, rfl⟩; (replace H : (if dF.length < 5864062014805 then (impl_LaplacianOf.l0 k2 (dF ++ [dP]) (wrap64 (bQ + 1)) aD aC) else (none)) = some r := zzY); have kG := zK_ hy_; clear hy_; by_cases c27 : dF.length < 5864062014805; rotate_left
     ·rw [if_neg c27] at H; exact absurd H (by simp)
     rw [if_pos c27] at H; have F6 := zK_ c27; clear c27; obtain ⟨mL, hy_⟩ : ∃ y_ : List (List Int), y_ = (dF ++ [dP]) := ⟨_, rfl⟩; (replace H : (impl_LaplacianOf.l0 k2 mL (wrap64 (bQ + 1)) aD aC) = some r := zzY); have oV := zK_ hy_; clear hy_; have H' := zK_ H; clear H; have tC := zC20 aA; have tB := zC21 aA; have sS := blk_frozen aA.out 0; have sR := blk_frozen aA.out 1; (go_wp2_with (first | ((with_reducible refine gate_callee (f := 89) rfl ?_); refine goesL_ (some 37) rfl rfl Try.func89 (by kernel_rfl) rfl #[.agg #[.int .i64 aD, .slice aH aC.length aG], .int .i64 bQ] rfl zz3 ?_; (with_reducible refine (impl_Valence.calls k2 aD _ _ aC bQ d9 _ ?side1 ?side2 A23.out).mono ?_); (case side1 => exact zz5); (case side2 => exact bO.out); rintro e w29 ⟨rfl, hb⟩; refine ⟨_, rfl, ?_⟩; have n_ := zA4 (Kd.S_below (by (with_reducible repeat (first | apply Kd.S_alloc | apply Kd.S_drewN | apply Kd.S_drew)); exact bG.out) hb) (Kd.R_below zz51 hb) (blk_below (g := aE) (o := .cells #[.int .i64 aD, .slice aH aC.length aG] 30 (0, 0)) zz1 hb) (below_step zz0 hb); clear bG cO aA HB; obtain ⟨bG, cO, aA, HB⟩ := n_; clear hb; have p26 : 0 ≤ (bQ : Int) := of_decide_eq_true zz4; have q26 : (bQ : Int) < ((eH.length : Int) : Int) := of_decide_eq_true zz4; obtain ⟨go26, co26, rU, EB, gl26, cl26, HG26⟩ := Kd.R_form cO.out (by omega); (first | cases rU | (injection rU with ea_ en_ ec_; (first | subst ea_ | (injection ea_ with ea_; subst ea_)); subst ec_; clear en_)); have NP := zK_ EB; have RQ := zK_ HG26; clear EB gl26 HG26; obtain ⟨JM, MR⟩ := Kd.R_celln 0 cO.out (bQ : Int) p26 q26; replace p26 := eq_true p26; replace q26 := eq_true q26; obtain ⟨hy30_, hz30_⟩ := Kd.R_celln 0 cO.out (bQ : Int) (of_decide_eq_true zz4) (of_decide_eq_true zz4); have z6 := Kd.R_putg cO.out (bQ : Int) d9) | ((with_reducible refine gate_store (t := 3) (p := 38) rfl ?_); refine store_event (t := 3) (p := 38) (v := ?vo_w31) (w1 := (w29.setCell ⟨go26, (bQ : Int).toNat, none⟩ (.int .i64 d9))) ?hg ?ho ?hn ?hr ?_; (case ho => rfl); (case hg => rfl); (case hn => rfl); (case hr => exact zz21); intro w31 hw; have hg : w29.grownBy w31 (some go26) := (by rw [hw]; exact z6.2); have hp_ : Kd.R (Kd.int .i64) 3 w31 w.heap.size (fun _ => True) (.slice (some ⟨go26, 0, none⟩) eH.length co13) dP := (by rw [hw, kG.out]; exact z6.1); clear z6; have n_ := zA4 (Kd.S_after (v := (.slice (some ⟨go26, 0, none⟩) eH.length co13)) (v1 := (.slice (some ⟨go26, 0, none⟩) eH.length co13)) (ok := (fun _ => True)) (by (with_reducible repeat (first | apply Kd.S_alloc | apply Kd.S_drewN | apply Kd.S_drew)); exact Kd.S_mono bG.out (fun _ hk => ⟨trivial, hk⟩)) hg (.inl rfl)) hp_ (blk_grown (g := aE) (o := .cells #[.int .i64 aD, .slice aH aC.length aG] 30 (0, 0)) zz1 hg (Kd.R_ne cO.out aA.out (by decide))) (by rw [hw]; exact below_set (HB.out) NP.out : Below w.heap.size w w31); clear bG cO aA HB; obtain ⟨bG, cO, aA, HB⟩ := n_; clear hg hw hp_) | ((with_reducible refine gate_builtin (b := .append) (xs := #[.tmp 39, .tmp 41]) rfl ?_); at_builtin; refine Kd.S_append (Kd.slice 3 (Kd.int .i64)) (w0 := w) w.heap.size rfl (.tmp 39) (.tmp 41) 50 26 (.slice none 0 0) 24 rfl Try.underlying50 info26 rfl (by decide) (by omega) u3 dF dP [.slice (some ⟨go26, 0, none⟩) eH.length co13] (fun _ => True) (fun k_ => some k_ = (.slice (some ⟨go26, 0, none⟩) eH.length co13 : Value).ownBlock) rfl rfl ?aP (fun k_ hk_ => ((Kd.R_mono (ok' := fun k_ => ((fun _ => True)) k_ ∧ some k_ ≠ (u3 : Value).ownBlock) (Kd.R_apart' (cO.out) (Kd.S_typed bG.out) (by decide)) (fun k_ hk => ⟨trivial, hk.2⟩))).1 k_ hk_.symm) ?aF ?aO ?aB ?aS ?aL ?_; (case aP => exact Kd.M_row (Kd.R_mono (Kd.R_tight rfl (Kd.R_mono (ok' := fun k_ => ((fun _ => True)) k_ ∧ some k_ ≠ (u3 : Value).ownBlock) (Kd.R_apart' (cO.out) (Kd.S_typed bG.out) (by decide)) (fun k_ hk => ⟨trivial, hk.2⟩))) (fun _ h_ => h_))); (case aB => exact zz0); (case aF => exact (fun _ _ => trivial)); (case aO => exact (by (with_reducible repeat (first | apply Kd.S_alloc | apply Kd.S_drewN | apply Kd.S_drew)); exact Kd.S_mono bG.out (fun k_ hk => ⟨trivial, fun e_ => hk.2 e_⟩))); (case aS => exact (below_size zz0)); (case aL => have := F6.out; omega); intro v111 w32 ho hb hg hat; rw [← oV.out] at ho; have n_ := zA3 (blk_grown (g := aE) (o := .cells #[.int .i64 aD, .slice aH aC.length aG] 30 (0, 0)) zz1 hg (Kd.S_ne bG.out aA.out (by decide))) hb ho; clear aA HB bG cO; obtain ⟨aA, HB, fU⟩ := n_; clear ho hb hg hat))); (try simp only [← iC]); go_roundg k2; (case measure => have := HK1.out; have := HK2.out; omega); case rel => exact ⟨(mL), (wrap64 (bQ + 1)), zz6, H', ⟨by have := HK1.out; have := HK2.out; omega⟩, ⟨by (try simp only [iC]); (with_reducible repeat (first | apply Kd.S_alloc | apply Kd.S_drewN | apply Kd.S_drew)); exact fU.out⟩, ⟨by (try simp only [iC]); (with_reducible repeat (first | refine blk_drewN ?_ _ | refine blk_drew ?_ | refine blk_alloc ?_ _)); exact aA.out⟩, ⟨zz0⟩⟩
end Go.Proofs.Ytkcbinohpdhbgaa.P
end

section
namespace Go.Proofs.Ytkcbinohpdhbgaa.Cf
set_option linter.unusedVariables false
set_option linter.unusedSimpArgs false
open Go.RowKit Go.Proofs.YtkcbinohpdhbgaaW.PrintWords Go.Proofs.YtkcbinohpdhbgaaW.PrintLast Go.Proofs.YtkcbinohpdhbgaaW.PrintMore Go.Proofs.Ytkcbinohpdhbgaa.P
theorem step_append_own {P : Program} {ops : Array Oper} {o : Oper} {a : Act} {w : World} {K : Act → World → Prop} {Q : Exit → Act → World → Prop} {E : Prop}
  (hg : o.guard = none) (s x : Operand) (t : TypeId) (hop : o.op = Op.call { callee := Callee.builtin Builtin.append, args := #[s, x], argTypes := #[t, t] })
  (base : Nat) (e : TypeId) (i : TypeInfo) (size : Nat) (h1 : P.underlying t = some (.slice e)) (h2 : P.info? e = some i) (h4 : i.size = size)
  (g n cap : Nat) (xs : List Value) (hs : a.eval s = .slice (some ⟨g, 0, none⟩) n cap) (hown : w.ownsRow base e size (.slice (some ⟨g, 0, none⟩) n cap) n xs)
  (ad : Addr) (m c : Nat) (news : List Value) (hx : a.eval x = .slice (some ad) m c) (hn : news.length = m * size) (hc : ∀ j u, news[j]? = some u → w.cell? (ad.add j) = some u) (h1c : ∀ u ∈ news, u.oneCell' = true)
  (hroom : n + m ≤ cap)
  (hK : ∀ w', w'.ownsRow base e size (.slice (some ⟨g, 0, none⟩) (n + m) cap) (n + m) (xs ++ news) → w.grownBy w' (some g) → K (a.put o.dst (.slice (some ⟨g, 0, none⟩) (n + m) cap)) w') :
  if Region.wanted o (yielded ops a.tmps) = true then Oper.wp P o a w K Q else E := by
 have hw : Region.wanted o (yielded ops a.tmps) = true := by simp [Region.wanted, hg]
 rw [if_pos hw]
 obtain ⟨w', hrun, r1, r2⟩ := run_append_fits (P := P) w base t o.type e i size h1 h2 h4 g n cap xs hown ad m c news hn hc h1c hroom
 unfold Oper.wp
 simp [execOp, hop, resolve, invoke, builtin, hs, hx, hrun, Result.andThen]
 exact hK w' r1 r2
theorem own_tail {base e size n : Nat} {cap g : Nat} {xs : List Value} : ∀ (vs : List Value) (o : Nat) (w : World), w.ownsRow base e size (.slice (some ⟨g, 0, none⟩) n cap) n xs → n * size ≤ o → o + vs.length ≤ cap * size →
  (w.setCells g o vs).ownsRow base e size (.slice (some ⟨g, 0, none⟩) n cap) n xs ∧ w.grownBy (w.setCells g o vs) (some g)
 | [], o, w, h, _, _ => ⟨h, World.grownBy.refl _ _⟩
 | v :: vs, o, w, h, h1, h2 => by
  have h0 : (w.setCell ⟨g, o, none⟩ v).ownsRow base e size (.slice (some ⟨g, 0, none⟩) n cap) n xs := by
   obtain ⟨hl, hr⟩ := h
   refine ⟨hl, ?_⟩
   rcases hr with ⟨hv, _⟩ | ⟨g', cap', cur, hv, hb, hh, hn, hm, hs, ht⟩
   ·cases hv
   ·injection hv with ha _ hc
    injection ha with ha
    injection ha with ha
    subst ha
    subst hc
    refine .inr ⟨g, cap, cur.setIfInBounds o v, rfl, hb, blk_put hh o v rfl, hn, hm, by rw [Array.size_setIfInBounds]; exact hs, ?_⟩
    rw [← ht, Array.toList_setIfInBounds, List.take_set_of_le h1]
  have hg : w.grownBy (w.setCell ⟨g, o, none⟩ v) (some g) := ⟨rfl, rfl, rfl, by simp [World.setCell], fun k _ hk => Below.heap_setCell w ⟨g, o, none⟩ v k (fun e => hk (by rw [e]))⟩
  obtain ⟨h3, h4⟩ := own_tail vs (o + 1) _ h0 (by omega) (by rw [List.length_cons] at h2; omega)
  refine ⟨h3, ⟨h4.os.trans hg.os, h4.tape.trans hg.tape, h4.output.trans hg.output, Nat.le_trans hg.size h4.size, fun k hk hne => ?_⟩⟩
  rw [show w.setCells g o (v :: vs) = (w.setCell ⟨g, o, none⟩ v).setCells g (o + 1) vs from rfl, h4.block k (Nat.lt_of_lt_of_le hk hg.size) hne]
  exact hg.block k hk hne
end Go.Proofs.Ytkcbinohpdhbgaa.Cf
end

section
namespace Go.Proofs.Ytkcbinohpdhbgaa.P
open Go.RowKit Go.Proofs.YtkcbinohpdhbgaaW.PrintWords Go.Proofs.YtkcbinohpdhbgaaW.PrintLast Go.Proofs.YtkcbinohpdhbgaaW.PrintMore
attribute [local go_sem] max2_int min2_int max_two min_two max_three min_three max_four min_four
set_option linter.unusedVariables false
set_option linter.unusedSimpArgs false
def slices_Delete_int_int.f (l0 : List (Int)) (a1 a2 : Int) : Option (List (Int)) := if 0 ≤ a1 then (if a1 < (l0.length : Int) then (if a2 = a1 + 1 then some (l0.eraseIdx a1.toNat) else none) else none) else none
theorem slices_Delete_int_int.clear_ {P : Program} (W : World) {g o c : Nat} {t e ty : TypeId} {cur : Array Value} (ht : P.underlying t = some (.slice e)) (hv : ∀ w, (zeroValue e).run P w = .ok (.int .i64 0) w) (hb : W.heap[g]? = some (.cells cur e (0, 0))) (hl : o + 1 ≤ cur.size) :
  (Builtin.clear_ #[t] ty #[.slice (some ⟨g, o, none⟩) 1 c]).run P W = .ok (.tuple #[]) (W.setCells g o [.int .i64 0]) := by
 have hst := run_storeCells_cells (P := P) g o [.int .i64 0] 0 W (fun j hj => by
  rw [blk_cell hb]; (simp at hj ⊢); omega) (fun j hj => blk_frozen hb _) (by intro v hv'; simp at hv'; rw [hv']; rfl)
 simp only [Nat.add_zero] at hst; (have hz : (Builtin.zeroCells (.int .i64 0 : Value).cells 1).toList = [.int .i64 0] := by simp [Builtin.zeroCells, Value.cells, List.range_succ]); simp [Builtin.clear_, run_underlying ht, hv, hz, hst]
theorem slices_Delete_int_int.calls (P0_ : Nat → Prop) (u9000_ : Value) (l0 : List (Int)) (a1 a2 : Int) (r : List (Int)) (w0 w : World) (hB : Below w0.heap.size w0 w) (ho0 : Kd.R (Kd.int .i64) 3 w w0.heap.size P0_ u9000_ l0) (h : slices_Delete_int_int.f l0 a1 a2 = some r) :
  Calls Try.prog 82 #[u9000_, .int .i64 a1, .int .i64 a2] w fun e w' => ∃ v0_ : Value, e = .returned (v0_) ∧ Kd.R (Kd.int .i64) 3 w' w0.heap.size (fun k_ => (P0_ k_ ∨ w.heap.size ≤ k_)) v0_ r ∧ Below w0.heap.size w0 w' ∧ Kept w w' (fun k_ => P0_ k_) := by
 unfold slices_Delete_int_int.f at h; split at h
 ·split at h
  ·split at h
   ·rename_i h0 h1 h2; subst h2; obtain rfl := Option.some.inj h; obtain ⟨i, rfl⟩ := Int.eq_ofNat_of_zero_le h0; (have hi : i < l0.length := by omega); clear h h0 h1; obtain ⟨hk0, inner, ho, hr⟩ := ho0; have hil : inner.length = l0.length * 1 := ho.1; rcases ho.2 with ⟨hv, hn⟩ | ⟨g, cap, cur, rfl, hbg, hh, hnc, hcm, hcs, htk⟩
    ·omega
    ·obtain ⟨i0, hi0, hz0, hz1, hz2⟩ := info_parts info3; (have hcells : ∀ j u, inner[j]? = some u → w.cell? ⟨g, j, none⟩ = some u := fun j u hu => by have := ho.cells (g := g) rfl j u hu; rwa [add_plain] at this); have hb0 : w0.heap.size ≤ w.heap.size := hB.size; change cur.size = cap * 1 at hcs; change List.take (l0.length * 1) cur.toList = inner at htk; have hk0g : P0_ g := hk0 g rfl; have hoi : w.drew.ownsRow w0.heap.size 3 1 (.slice (some ⟨g, 0, none⟩) i cap) i (inner.take (i * 1)) := ⟨by rw [List.length_take]; omega, .inr ⟨g, cap, cur, rfl, hbg, hh, by omega, hcm, hcs, by rw [← htk, List.take_take, Nat.min_eq_left (by omega)]⟩⟩; obtain ⟨d, hd⟩ : ∃ d, l0.length = i + 1 + d := ⟨l0.length - (i + 1), by omega⟩; rw [hd] at hil hnc htk ⊢; obtain ⟨news, hnews⟩ : ∃ news, news = inner.drop ((i + 1) * 1) := ⟨_, rfl⟩; have hnl : news.length = d * 1 := by rw [hnews, List.length_drop, hil]; omega
     have hn1 : ∀ u ∈ news, u.oneCell' = true := fun u hu => by
      rw [hnews] at hu; exact (Kd.reps_one hr (by decide) (fun p c hp => Kd.K_one (Kd.int .i64) (Kd.K_of_M (Kd.int .i64) hp))) u (List.mem_of_mem_drop hu)
     obtain ⟨A, hA, hsrc⟩ : ∃ A : Addr, (if cap = i + 1 then some (⟨g, 0, none⟩ : Addr) else some ⟨g, i + 1, none⟩) = some A ∧ Hid (∀ t u, news[t]? = some u → w.drew.cell? (A.add t) = some u) := by
      by_cases hq : cap = i + 1
      ·refine ⟨⟨g, 0, none⟩, by simp [hq], fun t u hu => ?_⟩; (have h0 : news.length = 0 := by omega); rw [List.length_eq_zero_iff.1 h0] at hu; simp at hu
      refine ⟨⟨g, i + 1, none⟩, by simp [hq], fun t u hu => ?_⟩; rw [hnews, List.getElem?_drop] at hu; rw [Addr.add_lit]; exact hcells _ _ (by simpa using hu)
     have HD := zK_ hd; clear hi; have HO := zK_ hoi; have HNL := zK_ hnl; have HN1 := zK_ hn1; have HR := zK_ hr; have HNW := zK_ hnews; have HIL := zK_ hil; have HBW := zK_ hB; have HC := zK_ hcs; have HG := zK_ (⟨hbg, hk0g, hcm⟩ : w0.heap.size ≤ g ∧ P0_ g ∧ cap ≤ maxLen); (have hic : i ≤ cap := by omega); (have hjc : i + 1 ≤ cap := by omega); (have hcz : cap ≤ 9223372036854775807 := by have := hcm; unfold maxLen at this; omega); clear hnl hn1 hr hnews hil hB hcs hbg hk0g hcm hh htk ho hcells hk0 hoi hd
     have clr_ : ∀ {W1 : World}, W1.ownsRow w0.heap.size 3 1 (.slice (some ⟨g, 0, none⟩) (i + d) cap) (i + d) (inner.take (i * 1) ++ news) → ∀ ty, (Builtin.clear_ #[26] ty #[.slice (some ⟨g, i + d, none⟩) (i + 1 + d - (i + d)) (cap - (i + d))]).run Try.prog W1 = .ok (.tuple #[]) (W1.setCells g (i + d) [.int .i64 0]) := fun {W1} hO ty => by
      rcases hO.2 with ⟨hv, _⟩ | ⟨g', cap', cur', hv, _, hh', _, _, hs', _⟩
      ·cases hv
      ·injection hv with ha _ hc'; injection ha with ha; injection ha with ha; subst ha; subst hc'; rw [show i + 1 + d - (i + d) = 1 by omega]; exact slices_Delete_int_int.clear_ W1 Try.underlying26 Try.zeroValue3 hh' (by rw [hs']; omega)
     (have hbi0 : (0 : Int) ≤ (i : Int) + 1 := by omega); (have hbi1 : (i : Int) + 1 ≤ (i : Int) + 1 + (d : Int) := by omega); go_enter Try.func82, Try.ntmps82; (go_wp2_with fail); (go_region_law (refine Cf.step_append_own rfl (.tmp 22) (.tmp 25) 26 rfl w0.heap.size 3 i0 1 Try.underlying26 hi0 hz1 g i cap (inner.take (i * 1)) (by simp [Act.eval, Act.put]) HO.out A d (cap - (i + 1)) news (by simp [Act.eval, Act.put]) HNL.out hsrc.out HN1.out (by omega) ?_; intro W1 hO1 hG1; have HO1 := zK_ hO1; have HG1 := zK_ hG1; have hcl := clr_ hO1; obtain ⟨W2, hW2⟩ : ∃ W2, W2 = W1.setCells g (i + d) [.int .i64 0] := ⟨_, rfl⟩; rw [← hW2] at hcl; have HW2 := zK_ hW2; clear hO1 hG1 hW2)); go_wp2; refine bodyPost_ret (v := .slice (some ⟨g, 0, none⟩) (i + d) cap) (by simp [results, Try.results82, go_sem]) rfl ?_; have hO2 := Cf.own_tail [.int .i64 0] (i + d) W1 HO1.out (by omega) (by have := HC.out; simp; omega); rw [← HW2.out] at hO2; have hgr : w.grownBy W2 (some g) := ⟨hO2.2.os.trans HG1.out.os, hO2.2.tape.trans HG1.out.tape, hO2.2.output.trans HG1.out.output, Nat.le_trans HG1.out.size hO2.2.size, fun k hk hne => (hO2.2.block k (Nat.lt_of_lt_of_le hk HG1.out.size) hne).trans (HG1.out.block k hk hne)⟩; (have hel : l0.eraseIdx ((i : Int)).toNat = l0.take i ++ l0.drop (i + 1) := by rw [Int.toNat_natCast, List.eraseIdx_eq_take_drop_succ]); refine ⟨_, rfl, ⟨fun k hk => ?_, ?_⟩, ⟨hgr.os.trans HBW.out.os, hgr.tape.trans HBW.out.tape, hgr.output.trans HBW.out.output, Nat.le_trans HBW.out.size hgr.size, fun k hk => (hgr.block k (Nat.lt_of_lt_of_le hk HBW.out.size) (by have := HG.out.1; simp; omega)).trans (HBW.out.block k hk)⟩, ⟨hgr.size, fun k hk hn => hgr.block k hk (fun e => hn (by injection e with e; rw [e]; exact HG.out.2.1))⟩⟩
     ·(simp [Value.ownBlock] at hk); subst hk; exact .inl HG.out.2.1
     ·(have hlen : (l0.eraseIdx ((i : Int)).toNat).length = i + d := by rw [hel, List.length_append, List.length_take, List.length_drop, HD.out]; omega); refine ⟨inner.take (i * 1) ++ news, by rw [hlen]; exact hO2.1, ?_⟩; rw [hel, HNW.out]; have ht := Kd.reps_take (m := i) HR.out (by rw [HD.out]; omega); have hd2 := Kd.reps_drop (m := i + 1) HR.out; (refine (Kd.reps_append ht hd2).imp_ fun p c hp => ?_); refine Kd.M_mono (Kd.int .i64) (fun k hk => ?_) (Kd.M_step hp (w1 := W2) fun k hk hlt => hgr.block k hlt (fun e => hk.2 (by rw [e]; rfl))); exact ⟨.inl hk.1, fun e => hk.2 (by rw [e]; rfl)⟩
   ·cases h
  ·cases h
 ·cases h
end Go.Proofs.Ytkcbinohpdhbgaa.P
end

section
namespace Go.Proofs.Ytkcbinohpdhbgaa.Cf
set_option linter.unusedVariables false
set_option linter.unusedSimpArgs false
open Go.RowKit Go.Proofs.YtkcbinohpdhbgaaW.PrintWords Go.Proofs.YtkcbinohpdhbgaaW.PrintLast Go.Proofs.YtkcbinohpdhbgaaW.PrintMore
structure RowsO (e1 e : Nat) (w : World) (base : Nat) (okj : Nat → Nat → Prop) (v : Value) (rs : List Value) (L : List (List Int)) : Prop where
 len : rs.length = L.length
 own : w.ownsRow base e1 1 v L.length rs
 row : ∀ j x u, L[j]? = some x → rs[j]? = some u → Kd.R (Kd.int .i64) e w base (okj j) u x
 apart : ∀ i j k, okj i k → okj j k → i = j
 off : ∀ j k, okj j k → some k ≠ v.ownBlock
theorem rows_open {e1 e : Nat} {w : World} {base : Nat} {ok : Nat → Prop} {v : Value} {L : List (List Int)} (h : Kd.S (Kd.slice e (Kd.int .i64)) e1 w base ok v L) :
  ∃ okj rs, RowsO e1 e w base okj v rs L ∧ (∀ k, v.ownBlock = some k → ok k) ∧ ∀ j k, okj j k → ok k := by
 obtain ⟨f, h0, inner, ho, hr⟩ := h
 rw [List.length_zipIdx] at ho
 have hl : inner.length = L.length := by have := ho.1; simpa [Kd.tag, Kd.slice] using this
 refine ⟨fun j k => (ok k ∧ some k ≠ v.ownBlock) ∧ f k = j, inner, ⟨hl, ho, fun j x u hx hu => ?_, fun i j k hi hj => hi.2.symm.trans hj.2, fun j k hk => hk.1.2⟩, h0, fun j k hk => hk.1.1⟩
 have h1 := hr.2 j (x, j) (by rw [List.getElem?_zipIdx, hx]; simp)
 obtain ⟨v', hv', hR⟩ := h1
 have hs : (Kd.tag f (Kd.slice e (Kd.int .i64))).sz = 1 := rfl
 rw [hs, Nat.mul_one] at hv'
 have : inner[j]? = some v' := by
  have := congrArg (fun l => l[0]?) hv'
  simpa [List.getElem?_take, List.getElem?_drop] using this
 rw [hu] at this
 obtain rfl := Option.some.inj this
 exact hR
def keepF (q : Nat) (L : List (List Int)) : Nat → List (List Int)
 | 0 => []
 | i + 1 => if i = q then keepF q L i else keepF q L i ++ [(L.getD i []).eraseIdx q]
theorem keepF_len (q : Nat) (L : List (List Int)) : ∀ i, (keepF q L i).length ≤ i
 | 0 => Nat.le_refl _
 | i + 1 => by
  have := keepF_len q L i
  unfold keepF
  split
  ·omega
  ·simp; omega
def redF (q : Int) (L : List (List Int)) : Option (List (List Int)) := if 0 ≤ q ∧ q ≤ 1000000 ∧ L.length ≤ 1000000 ∧ ∀ r ∈ L, q < (r.length : Int) then some (keepF q.toNat L L.length) else none
end Go.Proofs.Ytkcbinohpdhbgaa.Cf
end

section
namespace Go.Proofs.Ytkcbinohpdhbgaa.P
open Go.RowKit Go.Proofs.YtkcbinohpdhbgaaW.PrintWords Go.Proofs.YtkcbinohpdhbgaaW.PrintLast Go.Proofs.YtkcbinohpdhbgaaW.PrintMore
attribute [local go_sem] max2_int min2_int max_two min_two max_three min_three max_four min_four
set_option linter.unusedVariables false
set_option linter.unusedSimpArgs false
def impl_ReducedLaplacian.f (k : Nat) (aD : Int) (aC : List S76) (a1 : Int) : Option (List (List Int)) := (impl_isVertex.f aD aC a1).bind fun t => if t = true then (impl_LaplacianOf.f k aD aC).bind fun L => Cf.redF a1 L else some []
theorem impl_ReducedLaplacian.mono : ∀ a0 a1 a2 k, LeO (impl_ReducedLaplacian.f k a0 a1 a2) (impl_ReducedLaplacian.f (k + 1) a0 a1 a2) := by
 intro a0 a1 a2 k; unfold impl_ReducedLaplacian.f; exact LeO.bind (LeO.refl _) fun t => LeO.ite (LeO.bind (impl_LaplacianOf.mono _ _ k) fun _ => LeO.refl _) (LeO.refl _)
theorem impl_ReducedLaplacian.calls (k : Nat) (aD : Int) (aH : Option Addr) (aG : Nat) (aC : List S76) (a1 : Int) (r : List (List Int)) (w : World) (hr0_1 : Kd.C k76 w aH aC.length aC) (hc0_1 : aC.length ≤ aG) (h : impl_ReducedLaplacian.f k aD aC a1 = some r) :
  Calls Try.prog 41 #[.agg #[.int .i64 aD, .slice aH aC.length aG], .int .i64 a1] w fun e w' => ∃ v0_ : Value, e = .returned (v0_) ∧ Kd.S (Kd.slice 3 (Kd.int .i64)) 26 w' w.heap.size (fun _ => True) v0_ r ∧ Below w.heap.size w w' := by
 have hu30 := Try.underlying30; have HR := zK_ hr0_1; have HC := zK_ hc0_1; clear hr0_1 hc0_1; have H : ((impl_isVertex.f aD aC a1).bind fun t => if t = true then (impl_LaplacianOf.f k aD aC).bind fun L => Cf.redF a1 L else some []) = some r := h; clear h; obtain ⟨t, hv, H⟩ := zO_ H; have HV := zK_ hv; clear hv; have HB := zK_ (below_alloc (Below.refl w.heap.size w) (.cells #[.int .i64 aD, .slice aH aC.length aG] 30)); have BK := zK_ (heap_alloc_new w (.cells #[.int .i64 aD, .slice aH aC.length aG] 30))
 cases t with
 | false =>
  obtain rfl := Option.some.inj H; clear H; go_enter Try.func41, Try.ntmps41; (go_wp2_with fail); refine (impl_isVertex.calls _ _ _ aC _ false _ (Kd.C_below HR.out HB.out) HC.out HV.out).mono ?_; rintro e w1 ⟨rfl, hb⟩; have HB1 := zK_ (below_step HB.out hb); clear hb; go_wp2; go_ret; exact ⟨_, rfl, Kd.S_nil _ _ _ _ _, HB1.out⟩
 | true =>
  rw [if_pos rfl] at H; obtain ⟨L, hL, H⟩ := zO_ H; have HL := zK_ hL; clear hL; unfold Cf.redF at H; split at H
  ·rename_i hq; obtain rfl := Option.some.inj H; clear H; obtain ⟨hq0, hq1, hq2, hq3⟩ := hq; obtain ⟨q, rfl⟩ := Int.eq_ofNat_of_zero_le hq0; rw [Int.toNat_natCast]; have HQ := zK_ (show q ≤ 1000000 ∧ L.length ≤ 1000000 ∧ ∀ r ∈ L, q < r.length from ⟨by omega, hq2, fun r hr => by have := hq3 r hr; omega⟩); clear hq0 hq1 hq2 hq3; go_enter Try.func41, Try.ntmps41; (go_wp2_with fail); refine (impl_isVertex.calls _ _ _ aC _ true _ (Kd.C_below HR.out HB.out) HC.out HV.out).mono ?_; rintro e w1 ⟨rfl, hb⟩; have HB1 := zK_ (below_step HB.out hb); have AD := zK_ (blk_below BK.out hb); clear hb; have hz0 : w1.cell? ⟨w.heap.size, 0, none⟩ = some (.int .i64 aD) := (blk_cell AD.out 0).trans rfl; have hz1 : w1.cell? ⟨w.heap.size, 1, none⟩ = some (.slice aH aC.length aG) := (blk_cell AD.out 1).trans rfl; (go_wp2_with fail); refine (impl_LaplacianOf.calls k _ _ _ aC L _ (Kd.C_below HR.out HB1.out) HC.out HL.out).mono ?_; rintro e w2 ⟨vL, rfl, hS, hb⟩; have HB2 := zK_ (below_step HB1.out hb); obtain ⟨okj, rs, hO, _, hok⟩ := Cf.rows_open (Kd.S_bound hS); obtain ⟨AL, cL, eL, hcL, _⟩ := Kd.S_reads hS; have HO := zK_ hO; have HSZ := zK_ (show ∀ j k, okj j k → k < w2.heap.size from fun j k h => (hok j k h).2.2.1); have HW1 := zK_ (below_size HB1.out); have HRow := zK_ (show ∀ j x u, L[j]? = some x → rs[j]? = some u → Kd.R (Kd.int .i64) 3 w2 w.heap.size (okj j) u x from fun j x u hx hu => Kd.R_lower (hO.row j x u hx hu) (below_size HB1.out)); have HOL := zK_ (show ∀ k, vL.ownBlock = some k → k < w2.heap.size from Kd.S_lt hS); subst eL; have hLl : L.length ≤ cL := hcL; clear hS hb hO hok hcL hz0 hz1; go_wp2; (go_loopw [5, 15] (fun v5 v15 wr => ∃ i : Nat, v15 = .int .i64 (i : Int) ∧ Aside0 (i ≤ L.length ∧ w2.heap.size ≤ wr.heap.size) ∧ Aside0 (Below w.heap.size w wr) ∧ Aside0 (∀ k, ((Value.slice AL L.length cL).ownBlock = some k ∨ ∃ j, i ≤ j ∧ okj j k) → wr.heap[k]? = w2.heap[k]?) ∧ Aside0 (Kd.S (Kd.slice 3 (Kd.int .i64)) 26 wr w.heap.size (fun k => (∃ j, j < i ∧ okj j k) ∨ w2.heap.size ≤ k) v5 (Cf.keepF q L i))) (fun _ v _ => L.length - (intOf v).toNat)); case atStart => exact ⟨0, rfl, ⟨Nat.zero_le _, Nat.le_refl _⟩, HB2, ⟨fun _ _ => rfl⟩, ⟨Kd.S_nil _ _ _ _ _⟩⟩
   case round =>
    obtain ⟨i, rfl, HI, HBr, HM, HS⟩ := hrel; by_cases hlt : i < L.length; rotate_left
    ·have c0 : decide ((i : Int) < (L.length : Int)) = false := decide_eq_false (by omega); (have hi : i = L.length := by have := HI.out; omega); subst hi; clear hlt; go_wp2; go_ret; exact ⟨_, rfl, Kd.S_mono HS.out (fun _ _ => trivial), HBr.out⟩
    have c0 : decide ((i : Int) < (L.length : Int)) = true := decide_eq_true (by omega); (have hil : i < rs.length := by rw [HO.out.len]; exact hlt); obtain ⟨x, hxi⟩ : ∃ x, L[i]? = some x := ⟨_, List.getElem?_eq_getElem hlt⟩; obtain ⟨u, hui⟩ : ∃ u, rs[i]? = some u := ⟨_, List.getElem?_eq_getElem hil⟩; have hR2 := HRow.out i _ _ hxi hui; have hown := HO.out.own; obtain ⟨gL, cap, hgL, hgb, hgc⟩ := hown.form (by omega); injection hgL with hA hn hc; subst hA; (have hcell2 : w2.cell? ⟨gL, i, none⟩ = some u := by have := hown.cells (g := gL) rfl i _ hui; rwa [add_plain] at this); have hsame : wr.heap[gL]? = w2.heap[gL]? := HM.out gL (.inl rfl); have hcell : wr.cell? ⟨gL, i, none⟩ = some u := (World.cell?_of_block (a := ⟨gL, i, none⟩) hsame).trans hcell2; (have hRr := Kd.R_move hR2 (w1 := wr) fun k hk => HM.out k (.inr ⟨i, Nat.le_refl _, hk⟩)); obtain ⟨Ai, ci, ei⟩ := Kd.R_slice hRr; rw [ei] at hcell hRr; have HRr := zK_ hRr; (have p1 : (0 : Int) ≤ (i : Int) := by omega); (have p2 : (i : Int) < (L.length : Int) := by omega); (have hib : (i : Int) ≤ 1000000 := by have := HQ.out.2.1; omega); (have hq0 : (0 : Int) ≤ (q : Int) := by omega); (have hqb : (q : Int) ≤ 1000000 := by have := HQ.out.1; omega); have HLT := zK_ hlt; have HXI := zK_ hxi; have HGL := zK_ (HOL.out gL rfl); clear hR2 hown hgb hgc hsame hcell2 hRr hxi hui hlt hil ei hn hc; by_cases hq : i = q
    ·(have c1 : ((i : Int) == (q : Int)) = true := by simp [hq]); (have c2 : ((i : Int) != (q : Int)) = false := by simp [hq]); have HQI := zK_ hq; clear hq; go_wp2; go_roundw
     case rel =>
      refine ⟨i + 1, by go_num, ⟨by have := HLT.out; omega, HI.out.2⟩, HBr, ⟨fun k hk => HM.out k (hk.imp_right fun ⟨j, hj, h⟩ => ⟨j, by omega, h⟩)⟩, ⟨?_⟩⟩; have e : Cf.keepF q L (i + 1) = Cf.keepF q L i := if_pos HQI.out; rw [e]; exact Kd.S_mono HS.out fun k hk => hk.imp_left fun ⟨j, hj, h⟩ => ⟨j, by omega, h⟩
     case measure =>
      have := HLT.out; (simp [intOf]); omega
    (have c1 : ((i : Int) == (q : Int)) = false := by simp; omega); (have c2 : ((i : Int) != (q : Int)) = true := by simp; omega); have HQI := zK_ hq; clear hq; (go_wp2_with fail); refine (slices_Delete_int_int.calls (okj i) _ x (q : Int) _ (x.eraseIdx q) w wr HBr.out HRr.out ?hd).mono ?_
    case hd =>
     have hql : q < x.length := HQ.out.2.2 x (List.mem_of_getElem? HXI.out); unfold slices_Delete_int_int.f; rw [if_pos (by omega), if_pos (by omega), if_pos rfl, Int.toNat_natCast]
    rintro e w3 ⟨vD, rfl, hD, hb3, hk3⟩; obtain ⟨Ad, cd, ed⟩ := Kd.R_slice hD; subst ed; have HD := zK_ hD; have HB3 := zK_ hb3; have HK3 := zK_ hk3; clear hD hb3 hk3; have HSr := zK_ (Kd.S_mono (ok' := fun k => (((∃ j, j < i + 1 ∧ okj j k) ∨ w2.heap.size ≤ k) ∧ ¬ (okj i k ∨ wr.heap.size ≤ k))) (Kd.S_step (Kd.S_bound HS.out) (w1 := w3) fun k hk hlt => HK3.out.2 k hlt fun hi => hk.1.elim (fun ⟨j, hj, h⟩ => by have := HO.out.apart j i k h hi; omega) (fun h => by have := HSZ.out i k hi; omega)) fun k hk => ⟨hk.1.imp_left fun ⟨j, hj, h⟩ => ⟨j, by omega, h⟩, fun h => h.elim (fun hi => hk.1.elim (fun ⟨j, hj, h⟩ => by have := HO.out.apart j i k h hi; omega) (fun h => by have := HSZ.out i k hi; omega)) (fun h => by have := hk.2.2.1; omega)⟩); have HKL := zK_ (Cf.keepF_len q L i); (go_wp2_with (first | ((with_reducible refine gate_builtin (b := .append) (xs := #[.tmp 23, .tmp 29]) rfl ?_); at_builtin; refine Kd.S_append (Kd.slice 3 (Kd.int .i64)) (w0 := w) w.heap.size rfl (.tmp 23) (.tmp 29) 50 26 (.slice none 0 0) 24 rfl Try.underlying50 info26 rfl (by decide) (by omega) u5 (Cf.keepF q L i) (x.eraseIdx q) [.slice Ad (x.eraseIdx q).length cd] (fun k => (∃ j, j < i + 1 ∧ okj j k) ∨ w2.heap.size ≤ k) (fun k => okj i k ∨ wr.heap.size ≤ k) rfl rfl ?aP ?aK ?aF ?aO ?aB ?aS ?aL ?_; (case aP => exact Kd.M_row HD.out); (case aK => exact fun k hk => ⟨hk.elim (fun h => .inl ⟨i, by omega, h⟩) (fun h => .inr (by have := HI.out.2; omega)), fun e => (HSr.out.choose_spec.1 k e.symm).2 hk⟩); (case aF => exact fun k hk => .inr (by have := HI.out.2; have := HK3.out.1; omega)); (case aO => exact HSr.out); (case aB => exact HB3.out); (case aS => exact below_size HB3.out); (case aL => have := HKL.out; have := HQ.out.2.1; have := HLT.out; omega); intro v1 w4 ho hb hg hat; have HS4 := zK_ ho; have HB4 := zK_ hb; have HG4 := zK_ hg; clear ho hb hg hat))); go_roundw
    case rel =>
     refine ⟨i + 1, by go_num, ⟨by have := HLT.out; omega, by have := HI.out.2; have := HK3.out.1; have := HG4.out.size; omega⟩, HB4, ⟨fun k hk => ?_⟩, ⟨?_⟩⟩
     ·have hk2 : k < w2.heap.size ∧ ¬ (∃ j, j < i + 1 ∧ okj j k) := by
       rcases hk with hk | ⟨j, hj, h⟩
       ·(have : k = gL := by simpa [Value.ownBlock] using hk.symm); subst this; exact ⟨HGL.out, fun ⟨j, _, h⟩ => HO.out.off j k h rfl⟩
       ·exact ⟨HSZ.out j k h, fun ⟨j', hj', h'⟩ => by have := HO.out.apart j j' k h h'; omega⟩
      have hkr : k < wr.heap.size := Nat.lt_of_lt_of_le hk2.1 HI.out.2; (have h1 := HG4.out.block k (Nat.lt_of_lt_of_le hkr HK3.out.1) fun e => (HSr.out.choose_spec.1 k e.symm).1.elim hk2.2 fun h => by have := hk2.1; omega); (have h2 := HK3.out.2 k hkr fun h => hk2.2 ⟨i, by omega, h⟩); exact h1.trans (h2.trans (HM.out k (hk.imp_right fun ⟨j, hj, h⟩ => ⟨j, by omega, h⟩)))
     ·have e : Cf.keepF q L (i + 1) = Cf.keepF q L i ++ [x.eraseIdx q] := by
       show (if i = q then _ else _) = _; rw [if_neg HQI.out, List.getD_eq_getElem?_getD, HXI.out]; rfl
      rw [e]; exact HS4.out
    case measure =>
     have := HLT.out; (simp [intOf]); omega
  ·cases H
def impl_GroupFactors.l0 : Nat → List Int → List Int → Int → Int → Option (List Int)
 | 0, _, _, _, _ => none
 | k + 1, x3, fV, o0, iK => if iK < o0 then (if 0 ≤ iK then (if iK < (fV.length : Int) then (if (rd fV iK) > 1 then (if x3.length < 17592186044416 then (impl_GroupFactors.l0 k (x3 ++ [rd fV iK]) fV o0 (wrap64 (iK + 1))) else (none)) else (impl_GroupFactors.l0 k x3 fV o0 (wrap64 (iK + 1)))) else (none)) else (none)) else (some x3)
def impl_GroupFactors.f (k : Nat) (aD : Int) (aC : List (S76)) : Option (List Int) := (impl_GraphOk.f aD aC).bind fun aT => (if aT = true then ((impl_ReducedLaplacian.f k aD aC 0).bind fun bD => ((impl_InvariantFactors.f k bD).bind fun bT => (impl_GroupFactors.l0 k ([] : List Int) bT (bT.length : Int) 0))) else (some ([] : List Int)))
theorem impl_GroupFactors.mono_l : ∀ k, (∀ y0 y1 y2 y3, LeO (impl_GroupFactors.l0 k y0 y1 y2 y3) (impl_GroupFactors.l0 (k + 1) y0 y1 y2 y3))
 | 0 => fun _ _ _ _ r h => by simp [impl_GroupFactors.l0] at h
 | k + 1 => by
  have ih0 := impl_GroupFactors.mono_l k
  ·intro y0 y1 y2 y3
   unfold impl_GroupFactors.l0
   exact zm12
theorem impl_GroupFactors.mono : ∀ a0 a1 k, LeO (impl_GroupFactors.f k a0 a1) (impl_GroupFactors.f (k + 1) a0 a1) := by
 intro a0 a1 k; have ih0 := impl_GroupFactors.mono_l k; unfold impl_GroupFactors.f; exact zm12
theorem impl_GroupFactors.calls (k : Nat) (aD : Int) (aH : Option Addr) (aG : Nat) (aC : List (S76)) (r : List Int) (w : World) (hr0_1 : Kd.C k76 w aH aC.length aC) (hc0_1 : aC.length ≤ aG) (h : impl_GroupFactors.f k aD aC = some r) :
  Calls Try.prog 10 #[.agg #[.int .i64 aD, .slice aH aC.length aG]] w fun e w' => ∃ v0_ : Value, e = .returned (v0_) ∧ Kd.R (Kd.int .i64) 3 w' w.heap.size (fun _ => True) v0_ r ∧ Below w.heap.size w w' := by
 have hu30 := Try.underlying30; have cB := zK_ hr0_1; have bO := zK_ hc0_1; clear hr0_1 hc0_1; have HB := zK_ (Below.refl w.heap.size w); have H : ((impl_GraphOk.f aD aC).bind fun aT => (if aT = true then ((impl_ReducedLaplacian.f k aD aC 0).bind fun bD => ((impl_InvariantFactors.f k bD).bind fun bT => (impl_GroupFactors.l0 k ([] : List Int) bT (bT.length : Int) 0))) else (some ([] : List Int)))) = some r := h; clear h; obtain ⟨aT, A20, H⟩ := zO_ H; (try dsimp only at H); have A2 := zK_ A20; clear A20; by_cases c3 : aT = true; rotate_left
 ·replace c3 := Bool.eq_false_iff.mpr c3; subst c3; rw [if_neg (show ¬ (false = true) by decide)] at H; obtain rfl := Option.some.inj H; go_enter Try.func10, Try.ntmps10; (go_wp2_with (first | ((with_reducible refine gate_dst (N := 1) rfl ?_); refine box_event ?hg (N := 1) ?hd (cs := #[.int .i64 aD, .slice aH aC.length aG]) (t := 30) ?hr ?_; (case hd => rfl); (case hg => rfl); (case hr => exact zz21); intro aE hg w20 hbox hb; have n_ := zA4 (below_step zz2 hb) hbox (zz18 : w.heap.size ≤ aE) (zz18 : w.heap.size ≤ aE); clear HB; obtain ⟨HB, aA, GW101, GE101⟩ := n_; clear hb hbox hg; have iG := zC20 aA; have iF := zC21 aA; have iE := blk_frozen aA.out 0; have iD := blk_frozen aA.out 1) | ((with_reducible refine gate_callee (f := 39) rfl ?_); refine goesL_ (some 7) rfl rfl Try.func39 (by kernel_rfl) rfl #[.agg #[.int .i64 aD, .slice aH aC.length aG]] rfl zz3 ?_; (with_reducible refine (impl_GraphOk.calls aD _ _ aC false _ ?side1 ?side2 A2.out).mono ?_); (case side1 => exact zz5); (case side2 => exact bO.out); rintro e w22 ⟨rfl, hb⟩; refine ⟨_, rfl, ?_⟩; have n_ := zA2 (blk_below (g := aE) (o := .cells #[.int .i64 aD, .slice aH aC.length aG] 30 (0, 0)) zz1 hb) (below_step zz0 hb); clear aA HB; obtain ⟨aA, HB⟩ := n_; clear hb))); go_ret; exact ⟨_, zz10, zz44, zz0⟩
 subst c3; rw [if_pos rfl] at H; obtain ⟨bD, A40, H⟩ := zO_ H; (try dsimp only at H); have A4 := zK_ A40; clear A40; obtain ⟨bT, A50, H⟩ := zO_ H; (try dsimp only at H); have A5 := zK_ A50; clear A50; have H' := zK_ H; clear H; go_enter Try.func10, Try.ntmps10; (go_wp2_with (first | ((with_reducible refine gate_dst (N := 1) rfl ?_); refine box_event ?hg (N := 1) ?hd (cs := #[.int .i64 aD, .slice aH aC.length aG]) (t := 30) ?hr ?_; (case hd => rfl); (case hg => rfl); (case hr => exact zz21); intro aE hg w6 hbox hb; have n_ := zA4 (below_step zz2 hb) hbox (zz18 : w.heap.size ≤ aE) (zz18 : w.heap.size ≤ aE); clear HB; obtain ⟨HB, aA, GW101, GE101⟩ := n_; clear hb hbox hg; have f8 := zC20 aA; have f7 := zC21 aA; have f6 := blk_frozen aA.out 0; have f4 := blk_frozen aA.out 1) | ((with_reducible refine gate_callee (f := 39) rfl ?_); refine goesL_ (some 7) rfl rfl Try.func39 (by kernel_rfl) rfl #[.agg #[.int .i64 aD, .slice aH aC.length aG]] rfl zz3 ?_; (with_reducible refine (impl_GraphOk.calls aD _ _ aC true _ ?side1 ?side2 A2.out).mono ?_); (case side1 => exact zz5); (case side2 => exact bO.out); rintro e w8 ⟨rfl, hb⟩; refine ⟨_, rfl, ?_⟩; have n_ := zA2 (blk_below (g := aE) (o := .cells #[.int .i64 aD, .slice aH aC.length aG] 30 (0, 0)) zz1 hb) (below_step zz0 hb); clear aA HB; obtain ⟨aA, HB⟩ := n_; clear hb; have fQ := zC20 aA; have fP := zC21 aA; have fO := blk_frozen aA.out 0; have fN := blk_frozen aA.out 1) | ((with_reducible refine gate_callee (f := 41) rfl ?_); refine goesL_ (some 10) rfl rfl Try.func41 (by kernel_rfl) rfl #[.agg #[.int .i64 aD, .slice aH aC.length aG], .int .i64 0] rfl zz3 ?_; (with_reducible refine (impl_ReducedLaplacian.calls k aD _ _ aC 0 bD _ ?side1 ?side2 A4.out).mono ?_); (case side1 => exact zz5); (case side2 => exact bO.out); rintro e w10 ⟨v104, rfl, ho0, hb⟩; refine ⟨_, rfl, ?_⟩; have n_ := zA3 (Kd.S_lower ho0 (below_size zz0)) (blk_below (g := aE) (o := .cells #[.int .i64 aD, .slice aH aC.length aG] 30 (0, 0)) zz1 hb) (below_step zz0 hb); clear aA HB; obtain ⟨eN, aA, HB⟩ := n_; clear ho0 hb; obtain ⟨Ao11, co11, zV⟩ := Kd.S_slice eN.out; subst zV) | ((with_reducible refine gate_callee (f := 40) rfl ?_); refine goesL_ (some 11) rfl rfl Try.func40 (by kernel_rfl) rfl #[.slice Ao11 bD.length co11] rfl zz3 ?_; (with_reducible refine (impl_InvariantFactors.calls k _ _ bD bT _ ?side1 ?side2 A5.out).mono ?_); (case side1 => repeat (first | exact (Kd.S_reads' eN.out).2.2 | (with_reducible refine Kd.C_alloc ?_ _) | (with_reducible refine Kd.C_drewN ?_ _) | (with_reducible refine Kd.C_drew ?_))); (case side2 => exact (Kd.S_reads' eN.out).2.1); rintro e w12 ⟨v107, rfl, ho0, hb⟩; refine ⟨_, rfl, ?_⟩; have n_ := zA4 (Kd.S_elder' (by (with_reducible repeat (first | apply Kd.S_alloc | apply Kd.S_drewN | apply Kd.S_drew)); exact eN.out) (Kd.R_base ho0) hb) (Kd.R_lower ho0 (below_size zz0)) (blk_below (g := aE) (o := .cells #[.int .i64 aD, .slice aH aC.length aG] 30 (0, 0)) zz1 hb) (below_step zz0 hb); clear eN aA HB; obtain ⟨eN, fF, aA, HB⟩ := n_; clear ho0 hb; obtain ⟨Ao13, co13, nW⟩ := Kd.R_slice fF.out; subst nW))); (go_loopg [3, 13] k (fun kq v3 v13 w' => ∃ (dF : List Int) (bA : Int), v13 = .int .i64 bA ∧ Aside0 (impl_GroupFactors.l0 kq dF bT (bT.length : Int) bA = some r) ∧ Aside0 (kq ≤ k) ∧ Aside0 (Kd.R (Kd.int .i64) 3 w' w.heap.size (fun k_ => some k_ ≠ ((.slice Ao13 bT.length co13) : Value).ownBlock) v3 dF) ∧ Aside0 (Kd.R (Kd.int .i64) 3 w' w.heap.size (fun k_ => some k_ ≠ (v3 : Value).ownBlock) (.slice Ao13 bT.length co13) bT) ∧ Aside0 (w'.heap[aE]? = some (.cells #[.int .i64 aD, (.slice aH aC.length aG)] 30 (0, 0))) ∧ Aside0 (Below w.heap.size w w'))); case atStart => exact ⟨(([] : List Int)), (0), zz6, H', ⟨Nat.le_refl _⟩, ⟨zz44⟩, ⟨by (with_reducible repeat (first | apply Kd.R_alloc | apply Kd.R_drewN | apply Kd.R_drew)); exact Kd.R_mono fF.out (fun _ hk => (by simp [Value.ownBlock]))⟩, ⟨zz1⟩, ⟨zz0⟩⟩
 case round =>
  clear H'; (try clear c1); (try clear p2); (try clear c3); (try clear c4); (try clear c10); (try clear f8); (try clear f7); (try clear fQ); (try clear fP); (try clear f6); (try clear f4); (try clear fO); (try clear fN); obtain ⟨dF, bA, rfl, HA, HK1, bG, nS, aA, HB⟩ := hrel
  cases gk with
  | zero => exact absurd HA.out (by simp [impl_GroupFactors.l0])
  | succ k1 =>
   have H := HA.out; clear HA; simp only [impl_GroupFactors.l0] at H; by_cases c14 : bA < (bT.length : Int); rotate_left
   ·rw [if_neg c14] at H; have jB := decide_eq_false c14; clear c14; obtain rfl := Option.some.inj H; go_wp2; go_ret; exact ⟨_, zz10, by (with_reducible repeat (first | apply Kd.R_alloc | apply Kd.R_drewN | apply Kd.R_drew)); exact Kd.R_mono bG.out (fun _ hk => trivial), zz0⟩
   rw [if_pos c14] at H; have jB := decide_eq_true c14; clear c14; by_cases c15 : 0 ≤ bA; rotate_left
   ·rw [if_neg c15] at H; exact absurd H (by simp)
   rw [if_pos c15] at H; have i6 := decide_eq_true c15; clear c15; by_cases c16 : bA < (bT.length : Int); rotate_left
   ·rw [if_neg c16] at H; exact absurd H (by simp)
   rw [if_pos c16] at H; have kD := decide_eq_true c16; clear c16; by_cases c17 : (rd bT bA) > 1; rotate_left
   ·rw [if_neg c17] at H; have jR : decide (1 < (rd bT bA)) = false := decide_eq_false c17; clear c17; have H' := zK_ H; clear H; have p109 : 0 ≤ (bA : Int) := of_decide_eq_true zz4; have q109 : bA < (bT.length : Int) := of_decide_eq_true zz4; obtain ⟨yP, e109, wA⟩ := Kd.at_int (Kd.R_reads' nS.out).2.2 bA p109 q109; cases e109; replace p109 := eq_true p109; replace q109 := eq_true q109; go_wp2; go_roundg k1; (case measure => have := HK1.out; omega); case rel => exact ⟨(dF), (wrap64 (bA + 1)), zz6, H', ⟨zz99⟩, ⟨zz33⟩, ⟨by (with_reducible repeat (first | apply Kd.R_alloc | apply Kd.R_drewN | apply Kd.R_drew)); exact nS.out⟩, ⟨zz1⟩, ⟨zz0⟩⟩
   rw [if_pos c17] at H; have jR : decide (1 < (rd bT bA)) = true := decide_eq_true c17; clear c17; by_cases c18 : dF.length < 17592186044416; rotate_left
   ·rw [if_neg c18] at H; exact absurd H (by simp)
   rw [if_pos c18] at H; have F8 := zK_ c18; clear c18; obtain ⟨mL, hy_⟩ : ∃ y_ : List Int, y_ = (dF ++ [rd bT bA]) := ⟨_, rfl⟩; (replace H : (impl_GroupFactors.l0 k1 mL bT (bT.length : Int) (wrap64 (bA + 1))) = some r := zzY); have oV := zK_ hy_; clear hy_; have H' := zK_ H; clear H; have p109 : 0 ≤ (bA : Int) := of_decide_eq_true zz4; have q109 : bA < (bT.length : Int) := of_decide_eq_true zz4; obtain ⟨yP, e109, wA⟩ := Kd.at_int (Kd.R_reads' nS.out).2.2 bA p109 q109; cases e109; replace p109 := eq_true p109; replace q109 := eq_true q109; (go_wp2_with (first | ((with_reducible refine gate_builtin (b := .append) (xs := #[.tmp 19, .tmp 21]) rfl ?_); at_builtin; refine Kd.R_append (Kd.int .i64) (w0 := w) w.heap.size rfl (.tmp 19) (.tmp 21) 26 3 (.int .i64 0) 8 rfl Try.underlying26 info3 rfl (by decide) (by omega) u3 dF (rd bT bA) [.int .i64 (rd bT bA)] (fun k_ => some k_ ≠ (.slice (some yP) bT.length co13 : Value).ownBlock) (fun _ => False) rfl rfl ?aP (fun _ hk => hk.elim) ?aF ?aO ?aB ?aS ?aL ?_; (case aP => exact rfl); (case aB => exact zz0); (case aF => exact (fun k_ hk => Kd.fresh' (Kd.R_lt (by (with_reducible repeat (first | apply Kd.R_alloc | apply Kd.R_drewN | apply Kd.R_drew)); exact nS.out)) k_ hk)); (case aO => exact zz33); (case aS => exact (below_size zz0)); (case aL => have := F8.out; omega); intro v111 w19 ho hb hg hat; rw [← oV.out] at ho; have n_ := zA4 (Kd.R_after (ok := (fun _ => True)) (by (with_reducible repeat (first | apply Kd.R_alloc | apply Kd.R_drewN | apply Kd.R_drew)); exact Kd.R_mono nS.out (fun _ hk => ⟨trivial, hk⟩)) hg hat) (blk_grown (g := aE) (o := .cells #[.int .i64 aD, .slice aH aC.length aG] 30 (0, 0)) zz1 hg (Kd.R_ne bG.out aA.out (by decide))) hb ho; clear nS aA HB bG; obtain ⟨nS, aA, HB, fU⟩ := n_; clear ho hb hg hat))); go_roundg k1; (case measure => have := HK1.out; omega); case rel => exact ⟨(mL), (wrap64 (bA + 1)), zz6, H', ⟨zz99⟩, ⟨by (with_reducible repeat (first | apply Kd.R_alloc | apply Kd.R_drewN | apply Kd.R_drew)); exact fU.out⟩, ⟨by (with_reducible repeat (first | apply Kd.R_alloc | apply Kd.R_drewN | apply Kd.R_drew)); exact Kd.R_mono nS.out (fun _ hk => hk.2)⟩, ⟨zz1⟩, ⟨zz0⟩⟩
def IsS92 (w0 W : World) (g : Nat) (f0 : List Int) (f1 : Int) (f2 : Int) : Prop := ∃ A0 c0, W.heap[g]? = some (.cells #[.slice A0 f0.length c0, .int .i64 f1, .int .i64 f2] 92 (0, 0)) ∧ w0.heap.size ≤ g ∧ Kd.C (Kd.int .u8) w0 A0 f0.length f0
theorem IsS92.grown {w0 W : World} {g : Nat} {f0 : List Int} {f1 : Int} {f2 : Int} {W1 : World} {row : Option Nat} (h : IsS92 w0 W g f0 f1 f2) (hw : W.grownBy W1 row) (hne : some g ≠ row) : IsS92 w0 W1 g f0 f1 f2 := by
 obtain ⟨A0, c0, hb, hg, hr0⟩ := h; exact ⟨A0, c0, blk_grown hb hw hne, hg, hr0⟩
theorem IsS92.below {w0 W : World} {g : Nat} {f0 : List Int} {f1 : Int} {f2 : Int} {W1 : World} (h : IsS92 w0 W g f0 f1 f2) (hw : Below W.heap.size W W1) : IsS92 w0 W1 g f0 f1 f2 := h.grown (grown_of_below hw none) (by simp)
theorem IsS92.drewN {w0 W : World} {g : Nat} {f0 : List Int} {f1 : Int} {f2 : Int} (h : IsS92 w0 W g f0 f1 f2) (m : Nat) : IsS92 w0 (W.drewN m) g f0 f1 f2 := h
theorem IsS92.drew {w0 W : World} {g : Nat} {f0 : List Int} {f1 : Int} {f2 : Int} (h : IsS92 w0 W g f0 f1 f2) : IsS92 w0 W.drew g f0 f1 f2 := h
theorem IsS92.apart {w0 W : World} {g : Nat} {f0 : List Int} {f1 : Int} {f2 : Int} {α : Type} {d : Kd α} {e : Nat} {base : Nat} {ok : Nat → Prop} {v : Value} {xs : List α} (h : IsS92 w0 W g f0 f1 f2) (ho : d.R e W base ok v xs) (ht : ∀ q, q ∈ e :: d.E → q ≠ 92) : d.R e W base (fun k => ok k ∧ k ≠ g) v xs := by
 obtain ⟨A0, c0, hb, hg, hr0⟩ := h; exact Kd.R_types ho hb ht
theorem IsS92.own_ne {w0 W : World} {g : Nat} {f0 : List Int} {f1 : Int} {f2 : Int} {α : Type} {d : Kd α} {e : Nat} {base : Nat} {ok : Nat → Prop} {v : Value} {xs : List α} (h : IsS92 w0 W g f0 f1 f2) (ho : d.R e W base ok v xs) (ht : e ≠ 92) : some g ≠ v.ownBlock := by
 obtain ⟨A0, c0, hb, hg, hr0⟩ := h; exact Kd.R_ne ho hb ht
theorem IsS92.lt {w0 W : World} {g : Nat} {f0 : List Int} {f1 : Int} {f2 : Int} (h : IsS92 w0 W g f0 f1 f2) : g < W.heap.size := by
 obtain ⟨A0, c0, hb, hg, hr0⟩ := h; exact blk_lt hb
theorem IsS92.ge {w0 W : World} {g : Nat} {f0 : List Int} {f1 : Int} {f2 : Int} (h : IsS92 w0 W g f0 f1 f2) : w0.heap.size ≤ g := by
 obtain ⟨A0, c0, hb, hg, hr0⟩ := h; exact hg
theorem IsS92.ne_blk {w0 W : World} {g : Nat} {f0 : List Int} {f1 : Int} {f2 : Int} {a : Nat} {cs : Array Value} {t : TypeId} {fr : Nat × Nat} (h : IsS92 w0 W g f0 f1 f2) (hb2 : W.heap[a]? = some (.cells cs t fr)) (ht : t ≠ 92) : g ≠ a := by
 obtain ⟨A0, c0, hb, hg, hr0⟩ := h; rintro rfl; rw [hb] at hb2; injection hb2 with hb2; injection hb2 with _ ht2; exact ht ht2.symm
theorem IsS92.far {w0 W : World} {g : Nat} {f0 : List Int} {f1 : Int} {f2 : Int} {p : Addr} (h : IsS92 w0 W g f0 f1 f2) (hne : g ≠ p.block) (u : Value) : IsS92 w0 (W.setCell p u) g f0 f1 f2 := by
 obtain ⟨A0, c0, hb, hg, hr0⟩ := h; exact ⟨A0, c0, blk_far hb hne u, hg, hr0⟩
theorem cellS92_0 {W : World} {g : Nat} {A0 : Option Addr} {c0 : Nat} {f0 : List Int} {f1 : Int} {f2 : Int} (h : W.heap[g]? = some (.cells #[.slice A0 f0.length c0, .int .i64 f1, .int .i64 f2] 92 (0, 0))) : W.cell? ⟨g, 0, none⟩ = some (.slice A0 f0.length c0) := (blk_cell h 0).trans rfl
theorem cellS92_1 {W : World} {g : Nat} {A0 : Option Addr} {c0 : Nat} {f0 : List Int} {f1 : Int} {f2 : Int} (h : W.heap[g]? = some (.cells #[.slice A0 f0.length c0, .int .i64 f1, .int .i64 f2] 92 (0, 0))) : W.cell? ⟨g, 1, none⟩ = some (.int .i64 f1) := (blk_cell h 1).trans rfl
theorem IsS92.set_1 {w0 W : World} {g : Nat} {f0 : List Int} {f1 : Int} {f2 : Int} (h : IsS92 w0 W g f0 f1 f2) (x : Int) : IsS92 w0 (W.setCell ⟨g, 1, none⟩ (.int .i64 x)) g f0 x f2 := by
 obtain ⟨A0, c0, hb, hg, hr0⟩ := h; exact ⟨A0, c0, by simpa using blk_set hb 1 (.int .i64 x), hg, hr0⟩
theorem cellS92_2 {W : World} {g : Nat} {A0 : Option Addr} {c0 : Nat} {f0 : List Int} {f1 : Int} {f2 : Int} (h : W.heap[g]? = some (.cells #[.slice A0 f0.length c0, .int .i64 f1, .int .i64 f2] 92 (0, 0))) : W.cell? ⟨g, 2, none⟩ = some (.int .i64 f2) := (blk_cell h 2).trans rfl
theorem IsS92.set_2 {w0 W : World} {g : Nat} {f0 : List Int} {f1 : Int} {f2 : Int} (h : IsS92 w0 W g f0 f1 f2) (x : Int) : IsS92 w0 (W.setCell ⟨g, 2, none⟩ (.int .i64 x)) g f0 f1 x := by
 obtain ⟨A0, c0, hb, hg, hr0⟩ := h; exact ⟨A0, c0, by simpa using blk_set hb 2 (.int .i64 x), hg, hr0⟩
def spec_l01Byte.f (s0_0 : List Int) (s0_1 : Int) (s0_2 : Int) : Option (Int × Int × Int) := if s0_1 < (s0_0.length : Int) then (if 0 ≤ s0_1 then (some (Go.bits .and .i64 (wrap64 ((Go.bits .and .i64 (Go.bits .xor .i64 ((wrap64 ((wrap64 (s0_2 * 6364136223846793005)) + 1442695040888963407)) / 8589934592) ((wrap64 ((wrap64 (s0_2 * 6364136223846793005)) + 1442695040888963407)) / 35184372088832)) 255) + (wrap64 (rd s0_0 s0_1)))) 255, wrap64 (s0_1 + 1), wrap64 ((wrap64 (s0_2 * 6364136223846793005)) + 1442695040888963407))) else (none)) else (some (Go.bits .and .i64 (Go.bits .xor .i64 ((wrap64 ((wrap64 (s0_2 * 6364136223846793005)) + 1442695040888963407)) / 8589934592) ((wrap64 ((wrap64 (s0_2 * 6364136223846793005)) + 1442695040888963407)) / 35184372088832)) 255, s0_1, wrap64 ((wrap64 (s0_2 * 6364136223846793005)) + 1442695040888963407)))
theorem spec_l01Byte.calls (g : Nat) (s0_0 : List Int) (s0_1 : Int) (s0_2 : Int) (r1 : Int) (r2 : Int) (r3 : Int) (w0 w : World) (hI : IsS92 w0 w g s0_0 s0_1 s0_2) (hB : Below w0.heap.size w0 w) (h : spec_l01Byte.f s0_0 s0_1 s0_2 = some (r1, r2, r3)) :
  Calls Try.prog 54 #[.pointer (some ⟨g, 0, none⟩)] w fun e w' => e = .returned (.int .i64 r1) ∧ IsS92 w0 w' g s0_0 r2 r3 ∧ Below w0.heap.size w0 w' ∧ KeepBut w w' g none := by
 have HI0 := zK_ hI; have HK := zK_ (KeepBut.refl w g none); have HL := zK_ hB.size; clear hI; have HW0 := zK_ hB.size; have HB := zK_ hB; clear hB; have H : (if s0_1 < (s0_0.length : Int) then (if 0 ≤ s0_1 then (some (Go.bits .and .i64 (wrap64 ((Go.bits .and .i64 (Go.bits .xor .i64 ((wrap64 ((wrap64 (s0_2 * 6364136223846793005)) + 1442695040888963407)) / 8589934592) ((wrap64 ((wrap64 (s0_2 * 6364136223846793005)) + 1442695040888963407)) / 35184372088832)) 255) + (wrap64 (rd s0_0 s0_1)))) 255, wrap64 (s0_1 + 1), wrap64 ((wrap64 (s0_2 * 6364136223846793005)) + 1442695040888963407))) else (none)) else (some (Go.bits .and .i64 (Go.bits .xor .i64 ((wrap64 ((wrap64 (s0_2 * 6364136223846793005)) + 1442695040888963407)) / 8589934592) ((wrap64 ((wrap64 (s0_2 * 6364136223846793005)) + 1442695040888963407)) / 35184372088832)) 255, s0_1, wrap64 ((wrap64 (s0_2 * 6364136223846793005)) + 1442695040888963407)))) = some (r1, r2, r3) := h; clear h; by_cases c2 : s0_1 < (s0_0.length : Int); rotate_left
 ·rw [if_neg c2] at H; have nA := decide_eq_false c2; clear c2; simp only [Option.some.injEq, Prod.mk.injEq] at H; obtain ⟨rfl, rfl, rfl⟩ := H; obtain ⟨ASz5_0, cSz5_0, HGz5, hgz5, HSz5_0⟩ := HI0.out; have mR := cellS92_0 HGz5; have mQ := cellS92_1 HGz5; have MW := cellS92_2 HGz5; have mP := blk_frozen HGz5 1; have ML := blk_frozen HGz5 2; clear HGz5 hgz5; go_enter Try.func54, Try.ntmps54; go_wp2; (repeat (go_quiet (fail); try go_wp2)); go_ret; exact ⟨zz10, zz83, zz82, zz41⟩
 rw [if_pos c2] at H; have nA := decide_eq_true c2; clear c2; by_cases c3 : 0 ≤ s0_1; rotate_left
 ·rw [if_neg c3] at H; exact absurd H (by simp)
 rw [if_pos c3] at H; have jA := decide_eq_true c3; clear c3; simp only [Option.some.injEq, Prod.mk.injEq] at H; obtain ⟨rfl, rfl, rfl⟩ := H; obtain ⟨ASz4_0, cSz4_0, HGz4, hgz4, HSz4_0⟩ := HI0.out; have zI := cellS92_0 HGz4; have zH := cellS92_1 HGz4; have MX := cellS92_2 HGz4; have zE := blk_frozen HGz4 1; have MM := blk_frozen HGz4 2; clear HGz4 hgz4; have p101 : 0 ≤ (s0_1 : Int) := of_decide_eq_true zz4; have q101 : s0_1 < (s0_0.length : Int) := of_decide_eq_true zz4; obtain ⟨f9, e101, b8⟩ := Kd.at_int HSz4_0 s0_1 p101 q101; cases e101; have hn101_0 : f9.block ≠ g := Nat.ne_of_lt (Nat.lt_of_lt_of_le (by have := World.block_lt_of_cell? _ _ b8; first | rwa [add_block] at this | exact this) (IsS92.ge HI0.out)); replace b8 := pw_cell_below HB.out b8; replace b8 := (cell_far (p := ⟨g, 2, none⟩) (by first | (rw [add_block]; exact hn101_0) | (show (Addr.add _ _).block ≠ _; rw [add_block]; exact hn101_0) | exact hn101_0) (.int .i64 (wrap64 ((wrap64 (s0_2 * 6364136223846793005)) + 1442695040888963407)))).trans b8; (try have hy101_0 := fun (n_ : Nat) => (show (((w.drewN n_).setCell ⟨g, 2, none⟩ (.int .i64 (wrap64 ((wrap64 (s0_2 * 6364136223846793005)) + 1442695040888963407))))).cell? _ = some _ from b8)); clear hn101_0; replace p101 := eq_true p101; replace q101 := eq_true q101; go_enter Try.func54, Try.ntmps54; go_wp2; (repeat (go_quiet (fail); try go_wp2)); go_ret; exact ⟨zz10, zz83, zz82, zz41⟩
def spec_l02Vert.f (aD : Int) (aC : List (S76)) (a1 : Int) : Option (Bool) := if a1 ≥ 0 then (some (decide (a1 < aD))) else (some false)
theorem spec_l02Vert.calls (aD : Int) (aH : Option Addr) (aG : Nat) (aC : List (S76)) (a1 : Int) (r : Bool) (w : World) (hr0_1 : Kd.C k76 w aH aC.length aC) (hc0_1 : aC.length ≤ aG) (h : spec_l02Vert.f aD aC a1 = some r) :
  Calls Try.prog 105 #[.agg #[.int .i64 aD, .slice aH aC.length aG], .int .i64 a1] w fun e w' => e = .returned (.bool r) ∧ Below w.heap.size w w' := by
 have hu30 := Try.underlying30; have cB := zK_ hr0_1; have bO := zK_ hc0_1; clear hr0_1 hc0_1; have HB := zK_ (Below.refl w.heap.size w); have H : (if a1 ≥ 0 then (some (decide (a1 < aD))) else (some false)) = some r := h; clear h; by_cases c3 : a1 ≥ 0
 ·rw [if_pos c3] at H; have jA : decide (0 ≤ a1) = true := decide_eq_true c3; clear c3; obtain rfl := Option.some.inj H; go_enter Try.func105, Try.ntmps105; (go_wp2_with (first | ((with_reducible refine gate_dst (N := 2) rfl ?_); refine box_event ?hg (N := 2) ?hd (cs := #[.int .i64 aD, .slice aH aC.length aG]) (t := 30) ?hr ?_; (case hd => rfl); (case hg => rfl); (case hr => exact zz21); intro aE hg w4 hbox hb; have n_ := zA4 (below_step zz2 hb) hbox (zz18 : w.heap.size ≤ aE) (zz18 : w.heap.size ≤ aE); clear HB; obtain ⟨HB, aA, GW101, GE101⟩ := n_; clear hb hbox hg; have mR := zC20 aA; have mQ := zC21 aA; have nM := blk_frozen aA.out 0; have mP := blk_frozen aA.out 1))); go_ret; exact ⟨zz10, zz0⟩
 rw [if_neg c3] at H; have jA : decide (0 ≤ a1) = false := decide_eq_false c3; clear c3; obtain rfl := Option.some.inj H; go_enter Try.func105, Try.ntmps105; (go_wp2_with (first | ((with_reducible refine gate_dst (N := 2) rfl ?_); refine box_event ?hg (N := 2) ?hd (cs := #[.int .i64 aD, .slice aH aC.length aG]) (t := 30) ?hr ?_; (case hd => rfl); (case hg => rfl); (case hr => exact zz21); intro aE hg w6 hbox hb; have n_ := zA4 (below_step zz2 hb) hbox (zz18 : w.heap.size ≤ aE) (zz18 : w.heap.size ≤ aE); clear HB; obtain ⟨HB, aA, GW101, GE101⟩ := n_; clear hb hbox hg))); go_ret; exact ⟨zz10, zz0⟩
mutual
def spec_Multiplicity.j0 : Nat → Int → Int → Int → Bool → Int → List (S76) → Option (Int)
 | 0, _, _, _, _, _, _ => none
 | k + 1, x1, x2, x7, RB, aY, aX => if RB = true then (some 0) else (spec_Multiplicity.l0 k x1 x2 x7 aX (aX.length : Int) 0)
def spec_Multiplicity.l0 : Nat → Int → Int → Int → List (S76) → Int → Int → Option (Int)
 | 0, _, _, _, _, _, _ => none
 | k + 1, x1, x2, x7, tX, vQ, rM => if rM < vQ then (if 0 ≤ rM then (if rM < (tX.length : Int) then (if ((rd_T76 tX rM).f0) = (mn x1 x2) then (if ((rd_T76 tX rM).f1) = (mx x1 x2) then (spec_Multiplicity.l0 k x1 x2 (wrap64 (x7 + 1)) tX vQ (wrap64 (rM + 1))) else (spec_Multiplicity.l0 k x1 x2 x7 tX vQ (wrap64 (rM + 1)))) else (spec_Multiplicity.l0 k x1 x2 x7 tX vQ (wrap64 (rM + 1)))) else (none)) else (none)) else (some x7)
end
def spec_Multiplicity.f (k : Nat) (aD : Int) (aC : List (S76)) (a1 : Int) (a2 : Int) : Option (Int) := (spec_l02Vert.f aD aC a1).bind fun aT => (if aT = true then ((spec_l02Vert.f aD aC a2).bind fun bD => (if bD = true then (spec_Multiplicity.j0 k a1 a2 0 (a1 == a2) aD aC) else (spec_Multiplicity.j0 k a1 a2 0 true aD aC))) else (spec_Multiplicity.j0 k a1 a2 0 true aD aC))
theorem spec_Multiplicity.mono_l : ∀ k, (∀ y0 y1 y2 y3 y4 y5, LeO (spec_Multiplicity.j0 k y0 y1 y2 y3 y4 y5) (spec_Multiplicity.j0 (k + 1) y0 y1 y2 y3 y4 y5)) ∧ (∀ y0 y1 y2 y3 y4 y5, LeO (spec_Multiplicity.l0 k y0 y1 y2 y3 y4 y5) (spec_Multiplicity.l0 (k + 1) y0 y1 y2 y3 y4 y5))
 | 0 => ⟨fun _ _ _ _ _ _ r h => by simp [spec_Multiplicity.j0] at h, fun _ _ _ _ _ _ r h => by simp [spec_Multiplicity.l0] at h⟩
 | k + 1 => by
  obtain ⟨ih0, ih1⟩ := spec_Multiplicity.mono_l k
  refine ⟨?_, ?_⟩
  ·intro y0 y1 y2 y3 y4 y5
   unfold spec_Multiplicity.j0
   exact zm1
  ·intro y0 y1 y2 y3 y4 y5
   unfold spec_Multiplicity.l0
   exact zm1
theorem spec_Multiplicity.mono : ∀ a0 a1 a2 a3 k, LeO (spec_Multiplicity.f k a0 a1 a2 a3) (spec_Multiplicity.f (k + 1) a0 a1 a2 a3) := by
 intro a0 a1 a2 a3 k; obtain ⟨ih0, ih1⟩ := spec_Multiplicity.mono_l k; unfold spec_Multiplicity.f; exact zm1
theorem spec_Multiplicity.calls (k : Nat) (aD : Int) (aH : Option Addr) (aG : Nat) (aC : List (S76)) (a1 : Int) (a2 : Int) (r : Int) (w : World) (hr0_1 : Kd.C k76 w aH aC.length aC) (hc0_1 : aC.length ≤ aG) (h : spec_Multiplicity.f k aD aC a1 a2 = some r) :
  Calls Try.prog 97 #[.agg #[.int .i64 aD, .slice aH aC.length aG], .int .i64 a1, .int .i64 a2] w fun e w' => e = .returned (.int .i64 r) ∧ Below w.heap.size w w' := by
 have hu30 := Try.underlying30; have hu76 := Try.underlying76; have cB := zK_ hr0_1; have bO := zK_ hc0_1; clear hr0_1 hc0_1; have HB := zK_ (Below.refl w.heap.size w); have H : ((spec_l02Vert.f aD aC a1).bind fun aT => (if aT = true then ((spec_l02Vert.f aD aC a2).bind fun bD => (if bD = true then (spec_Multiplicity.j0 k a1 a2 0 (a1 == a2) aD aC) else (spec_Multiplicity.j0 k a1 a2 0 true aD aC))) else (spec_Multiplicity.j0 k a1 a2 0 true aD aC))) = some r := h; clear h; have HC4 := zK_ H; clear H; go_enter Try.func97, Try.ntmps97; (go_upto_region 2 with (first | ((with_reducible refine gate_dst (N := 3) rfl ?_); (try (refine gate_guard (by rfl) ?_; dsimp only)); refine box_event ?hg (N := 3) ?hd (cs := #[.int .i64 aD, .slice aH aC.length aG]) (t := 30) ?hr ?_; (case hd => rfl); (case hg => rfl); (case hr => exact zz21); intro aE hg w5 hbox hb; have n_ := zA4 (below_step zz2 hb) hbox (zz18 : w.heap.size ≤ aE) (zz18 : w.heap.size ≤ aE); clear HB; obtain ⟨HB, aA, GW101, GE101⟩ := n_; clear hb hbox hg))); (try simp only [Act.put, List.setIfInBounds_toArray, List.set_cons_zero, List.set_cons_succ]); go_cut [24] (fun v24 wc => ∃ (kq : Nat) (r7 : Bool), v24 = .bool r7 ∧ Aside0 (spec_Multiplicity.j0 kq a1 a2 0 r7 aD aC = some r) ∧ Aside0 (kq ≤ k) ∧ Aside0 (wc.heap[aE]? = some (.cells #[.int .i64 aD, (.slice aH aC.length aG)] 30 (0, 0))) ∧ Aside0 (Below w.heap.size w wc))
 case first =>
  have H := HC4.out; clear HC4; obtain ⟨aT, A60, H⟩ := zO_ H; (try dsimp only at H); have A6 := zK_ A60; clear A60; by_cases c7 : aT = true; rotate_left
  ·replace c7 := Bool.eq_false_iff.mpr c7; subst c7; rw [if_neg (show ¬ (false = true) by decide)] at H; have H' := zK_ H; clear H; have m7 := zC20 aA; have m6 := zC21 aA; have mZ := blk_frozen aA.out 0; have mY := blk_frozen aA.out 1; (go_wp2_with (first | ((with_reducible refine gate_callee (f := 105) rfl ?_); refine goesL_ (some 12) rfl rfl Try.func105 (by kernel_rfl) rfl #[.agg #[.int .i64 aD, .slice aH aC.length aG], .int .i64 a1] rfl zz3 ?_; (with_reducible refine (spec_l02Vert.calls aD _ _ aC a1 false _ ?side1 ?side2 A6.out).mono ?_); (case side1 => exact zz5); (case side2 => exact bO.out); rintro e w19 ⟨rfl, hb⟩; refine ⟨_, rfl, ?_⟩; have n_ := zA2 (blk_below (g := aE) (o := .cells #[.int .i64 aD, .slice aH aC.length aG] 30 (0, 0)) zz1 hb) (below_step zz0 hb); clear aA HB; obtain ⟨aA, HB⟩ := n_; clear hb))); (go_meet); case rel => exact ⟨_, (true), zz6, H', ⟨by first | omega | exact Nat.le_refl _⟩, ⟨zz1⟩, ⟨zz0⟩⟩
  subst c7; rw [if_pos rfl] at H; obtain ⟨bD, A80, H⟩ := zO_ H; (try dsimp only at H); have A8 := zK_ A80; clear A80; by_cases c9 : bD = true
  ·subst c9; rw [if_pos rfl] at H; have H' := zK_ H; clear H; have eF := zC20 aA; have eE := zC21 aA; have eD := blk_frozen aA.out 0; have eC := blk_frozen aA.out 1; (go_wp2_with (first | ((with_reducible refine gate_callee (f := 105) rfl ?_); refine goesL_ (some 12) rfl rfl Try.func105 (by kernel_rfl) rfl #[.agg #[.int .i64 aD, .slice aH aC.length aG], .int .i64 a1] rfl zz3 ?_; (with_reducible refine (spec_l02Vert.calls aD _ _ aC a1 true _ ?side1 ?side2 A6.out).mono ?_); (case side1 => exact zz5); (case side2 => exact bO.out); rintro e w11 ⟨rfl, hb⟩; refine ⟨_, rfl, ?_⟩; have n_ := zA2 (blk_below (g := aE) (o := .cells #[.int .i64 aD, .slice aH aC.length aG] 30 (0, 0)) zz1 hb) (below_step zz0 hb); clear aA HB; obtain ⟨aA, HB⟩ := n_; clear hb; have mB := zC20 aA; have mA := zC21 aA; have lW := blk_frozen aA.out 0; have lV := blk_frozen aA.out 1) | (go_at_call 105; (with_reducible refine (spec_l02Vert.calls aD _ _ aC a2 true _ ?side1 ?side2 A8.out).mono ?_); (case side1 => exact zz5); (case side2 => exact bO.out); rintro e w13 ⟨rfl, hb⟩; have n_ := zA2 (blk_below (g := aE) (o := .cells #[.int .i64 aD, .slice aH aC.length aG] 30 (0, 0)) zz1 hb) (below_step zz0 hb); clear aA HB; obtain ⟨aA, HB⟩ := n_; (try clear hb); (try clear hb2); (try clear hk); (try clear hi)))); (go_meet); case rel => exact ⟨_, ((a1 == a2)), zz6, H', ⟨by first | omega | exact Nat.le_refl _⟩, ⟨zz1⟩, ⟨zz0⟩⟩
  replace c9 := Bool.eq_false_iff.mpr c9; subst c9; rw [if_neg (show ¬ (false = true) by decide)] at H; have H' := zK_ H; clear H; have g4 := zC20 aA; have g3 := zC21 aA; have g2 := blk_frozen aA.out 0; have gJ := blk_frozen aA.out 1; (go_wp2_with (first | ((with_reducible refine gate_callee (f := 105) rfl ?_); refine goesL_ (some 12) rfl rfl Try.func105 (by kernel_rfl) rfl #[.agg #[.int .i64 aD, .slice aH aC.length aG], .int .i64 a1] rfl zz3 ?_; (with_reducible refine (spec_l02Vert.calls aD _ _ aC a1 true _ ?side1 ?side2 A6.out).mono ?_); (case side1 => exact zz5); (case side2 => exact bO.out); rintro e w15 ⟨rfl, hb⟩; refine ⟨_, rfl, ?_⟩; have n_ := zA2 (blk_below (g := aE) (o := .cells #[.int .i64 aD, .slice aH aC.length aG] 30 (0, 0)) zz1 hb) (below_step zz0 hb); clear aA HB; obtain ⟨aA, HB⟩ := n_; clear hb; have oG := zC20 aA; have oF := zC21 aA; have n8 := blk_frozen aA.out 0; have n7 := blk_frozen aA.out 1) | (go_at_call 105; (with_reducible refine (spec_l02Vert.calls aD _ _ aC a2 false _ ?side1 ?side2 A8.out).mono ?_); (case side1 => exact zz5); (case side2 => exact bO.out); rintro e w17 ⟨rfl, hb⟩; have n_ := zA2 (blk_below (g := aE) (o := .cells #[.int .i64 aD, .slice aH aC.length aG] 30 (0, 0)) zz1 hb) (below_step zz0 hb); clear aA HB; obtain ⟨aA, HB⟩ := n_; (try clear hb); (try clear hb2); (try clear hk); (try clear hi)))); (go_meet); case rel => exact ⟨_, (true), zz6, H', ⟨by first | omega | exact Nat.le_refl _⟩, ⟨zz1⟩, ⟨zz0⟩⟩
 case rest =>
  clear HC4; (try clear c1); (try clear p2); (try clear c7); (try clear c9); (try clear c10); (try clear eF); (try clear eE); (try clear mB); (try clear mA); (try clear g4); (try clear g3); (try clear oG); (try clear oF); (try clear m7); (try clear m6); (try clear eD); (try clear eC); (try clear lW); (try clear lV); (try clear g2); (try clear gJ); (try clear n8); (try clear n7); (try clear mZ); (try clear mY); obtain ⟨kq, r7, rfl, HA, HJ3, aA, HB⟩ := hcut
  cases kq with
  | zero => exact absurd HA.out (by simp [spec_Multiplicity.j0])
  | succ kj3 =>
   have H := HA.out; clear HA; simp only [spec_Multiplicity.j0] at H; by_cases c20 : r7 = true
   ·subst c20; rw [if_pos rfl] at H; obtain rfl := Option.some.inj H; go_wp2; go_ret; exact ⟨zz10, zz0⟩
   replace c20 := Bool.eq_false_iff.mpr c20; subst c20; rw [if_neg (show ¬ (false = true) by decide)] at H; have H' := zK_ H; clear H; have iG := zC20 aA; have iF := zC21 aA; have iE := blk_frozen aA.out 0; have iD := blk_frozen aA.out 1; go_wp2; (go_loopg [7, 28] kj3 (fun kq v7 v28 w' => ∃ (jM : Int) (d1 : Int), v7 = .int .i64 jM ∧ v28 = .int .i64 d1 ∧ Aside0 (spec_Multiplicity.l0 kq a1 a2 jM aC (aC.length : Int) d1 = some r) ∧ Aside0 (kq ≤ kj3) ∧ Aside0 (w'.heap[aE]? = some (.cells #[.int .i64 aD, (.slice aH aC.length aG)] 30 (0, 0))) ∧ Aside0 (Below w.heap.size w w'))); case atStart => exact ⟨(0), (0), zz6, zz6, H', ⟨Nat.le_refl _⟩, ⟨zz1⟩, ⟨zz0⟩⟩
   case round =>
    clear H'; (try clear c1); (try clear c2); (try clear p2); (try clear c7); (try clear c9); (try clear c10); (try clear c20); (try clear eF); (try clear eE); (try clear mB); (try clear mA); (try clear g4); (try clear g3); (try clear oG); (try clear oF); (try clear m7); (try clear m6); (try clear iG); (try clear iF); (try clear eD); (try clear eC); (try clear lW); (try clear lV); (try clear g2); (try clear gJ); (try clear n8); (try clear n7); (try clear mZ); (try clear mY); (try clear iE); (try clear iD); (try clear p2); obtain ⟨jM, d1, rfl, rfl, HA, HK2, aA, HB⟩ := hrel
    cases gk with
    | zero => exact absurd HA.out (by simp [spec_Multiplicity.l0])
    | succ k2 =>
     have H := HA.out; clear HA; simp only [spec_Multiplicity.l0] at H; by_cases c22 : d1 < (aC.length : Int); rotate_left
     ·rw [if_neg c22] at H; have tJ := decide_eq_false c22; clear c22; obtain rfl := Option.some.inj H; go_wp2; go_ret; exact ⟨zz10, zz0⟩
     rw [if_pos c22] at H; have tJ := decide_eq_true c22; clear c22; by_cases c23 : 0 ≤ d1; rotate_left
     ·rw [if_neg c23] at H; exact absurd H (by simp)
     rw [if_pos c23] at H; have q5 := decide_eq_true c23; clear c23; by_cases c24 : d1 < (aC.length : Int); rotate_left
     ·rw [if_neg c24] at H; exact absurd H (by simp)
     rw [if_pos c24] at H; have o2 := decide_eq_true c24; clear c24; obtain ⟨rR, uF⟩ : ∃ j_ : Int, (mn a1 a2) = j_ := ⟨_, rfl⟩; (replace H : (if ((rd_T76 aC d1).f0) = (rR) then (if ((rd_T76 aC d1).f1) = (mx a1 a2) then (spec_Multiplicity.l0 k2 a1 a2 (wrap64 (jM + 1)) aC (aC.length : Int) (wrap64 (d1 + 1))) else (spec_Multiplicity.l0 k2 a1 a2 jM aC (aC.length : Int) (wrap64 (d1 + 1)))) else (spec_Multiplicity.l0 k2 a1 a2 jM aC (aC.length : Int) (wrap64 (d1 + 1)))) = some r := by first | (rw [uF] at H; exact H) | (simp only [uF] at H ⊢; exact H)); have LY : (if a2 < a1 then a2 else a1) = rR := uF; by_cases c26 : ((rd_T76 aC d1).f0) = (rR); rotate_left
     ·rw [if_neg c26] at H; have FH : (((rd_T76 aC d1).f0) == (rR)) = false := beq_eq_false_iff_ne.mpr c26; have FG : (((rd_T76 aC d1).f0) != (rR)) = true := bne_iff_ne.mpr c26; have H' := zK_ H; clear H; have p104 : 0 ≤ (d1 : Int) := of_decide_eq_true zz4; have q104 : d1 < (aC.length : Int) := of_decide_eq_true zz4; obtain ⟨jC, e104, dY, iA⟩ := at_T76 cB.out d1 p104 q104; cases e104; replace dY := (HB.out.cell (World.block_lt_of_cell? w _ dY)).trans dY; replace iA := (HB.out.cell (World.block_lt_of_cell? w _ iA)).trans iA; replace p104 := eq_true p104; replace q104 := eq_true q104; (go_wp2_with (first | ((with_reducible refine gate_dst (N := 9) rfl ?_); (try (refine gate_guard (by rfl) ?_; dsimp only)); refine box_event ?hg (N := 9) ?hd (cs := #[.int .i64 0, .int .i64 0]) (t := 76) ?hr ?_; (case hd => rfl); (case hg => rfl); (case hr => exact zz21); intro cY hg w35 hbox hb; have n_ := zA7 (blk_below (g := aE) (o := .cells #[.int .i64 aD, .slice (some jC) aC.length aG] 30 (0, 0)) zz1 hb) (below_step zz0 hb) hbox (zz47 : w.heap.size ≤ cY) (zz47 : w.heap.size ≤ cY) (by rw [hg]; exact Nat.ne_of_lt (blk_lt (g := aE) (o := .cells #[.int .i64 aD, .slice (some jC) aC.length aG] 30 (0, 0)) zz1) : aE ≠ cY) (by rw [hg]; exact Nat.ne_of_gt (blk_lt (g := aE) (o := .cells #[.int .i64 aD, .slice (some jC) aC.length aG] 30 (0, 0)) zz1) : cY ≠ aE); clear aA HB; obtain ⟨aA, HB, aQ, GW105, GE105, eQ, fK⟩ := n_; clear hb hbox hg; have xV := fK.out; have xR := eQ.out; have oC := zC20 aQ; have oB := zC21 aQ; have n3 := blk_frozen aQ.out 0; have n2 := blk_frozen aQ.out 1))); go_roundg k2; (case measure => have := HJ3.out; have := HK2.out; omega); case rel => exact ⟨(jM), (wrap64 (d1 + 1)), zz6, zz6, H', ⟨zz134⟩, ⟨zz92⟩, ⟨zz133⟩⟩
     rw [if_pos c26] at H; have FH : (((rd_T76 aC d1).f0) == (rR)) = true := beq_iff_eq.mpr c26; have FG : (((rd_T76 aC d1).f0) != (rR)) = false := bne_eq_false_iff_eq.mpr c26; clear c26; obtain ⟨rQ, uE⟩ : ∃ j_ : Int, (mx a1 a2) = j_ := ⟨_, rfl⟩; (replace H : (if ((rd_T76 aC d1).f1) = (rQ) then (spec_Multiplicity.l0 k2 a1 a2 (wrap64 (jM + 1)) aC (aC.length : Int) (wrap64 (d1 + 1))) else (spec_Multiplicity.l0 k2 a1 a2 jM aC (aC.length : Int) (wrap64 (d1 + 1)))) = some r := by first | (rw [uE] at H; exact H) | (simp only [uE] at H ⊢; exact H)); have LX : (if a1 < a2 then a2 else a1) = rQ := uE; by_cases c28 : ((rd_T76 aC d1).f1) = (rQ); rotate_left
     ·rw [if_neg c28] at H; have tI : (((rd_T76 aC d1).f1) == (rQ)) = false := beq_eq_false_iff_ne.mpr c28; have u2 : (((rd_T76 aC d1).f1) != (rQ)) = true := bne_iff_ne.mpr c28; have H' := zK_ H; clear H; have p104 : 0 ≤ (d1 : Int) := of_decide_eq_true zz4; have q104 : d1 < (aC.length : Int) := of_decide_eq_true zz4; obtain ⟨jC, e104, dY, iA⟩ := at_T76 cB.out d1 p104 q104; cases e104; replace dY := (HB.out.cell (World.block_lt_of_cell? w _ dY)).trans dY; replace iA := (HB.out.cell (World.block_lt_of_cell? w _ iA)).trans iA; replace p104 := eq_true p104; replace q104 := eq_true q104; (go_wp2_with (first | ((with_reducible refine gate_dst (N := 9) rfl ?_); (try (refine gate_guard (by rfl) ?_; dsimp only)); refine box_event ?hg (N := 9) ?hd (cs := #[.int .i64 0, .int .i64 0]) (t := 76) ?hr ?_; (case hd => rfl); (case hg => rfl); (case hr => exact zz21); intro cY hg w32 hbox hb; have n_ := zA7 (blk_below (g := aE) (o := .cells #[.int .i64 aD, .slice (some jC) aC.length aG] 30 (0, 0)) zz1 hb) (below_step zz0 hb) hbox (zz47 : w.heap.size ≤ cY) (zz47 : w.heap.size ≤ cY) (by rw [hg]; exact Nat.ne_of_lt (blk_lt (g := aE) (o := .cells #[.int .i64 aD, .slice (some jC) aC.length aG] 30 (0, 0)) zz1) : aE ≠ cY) (by rw [hg]; exact Nat.ne_of_gt (blk_lt (g := aE) (o := .cells #[.int .i64 aD, .slice (some jC) aC.length aG] 30 (0, 0)) zz1) : cY ≠ aE); clear aA HB; obtain ⟨aA, HB, aQ, GW105, GE105, eQ, fK⟩ := n_; clear hb hbox hg; have PV := fK.out; have OQ := eQ.out; have JC := zC20 aQ; have JB := zC21 aQ; have H5 := blk_frozen aQ.out 0; have H4 := blk_frozen aQ.out 1))); go_roundg k2; (case measure => have := HJ3.out; have := HK2.out; omega); case rel => exact ⟨(jM), (wrap64 (d1 + 1)), zz6, zz6, H', ⟨zz134⟩, ⟨zz92⟩, ⟨zz133⟩⟩
     rw [if_pos c28] at H; have tI : (((rd_T76 aC d1).f1) == (rQ)) = true := beq_iff_eq.mpr c28; have u2 : (((rd_T76 aC d1).f1) != (rQ)) = false := bne_eq_false_iff_eq.mpr c28; clear c28; have H' := zK_ H; clear H; have p104 : 0 ≤ (d1 : Int) := of_decide_eq_true zz4; have q104 : d1 < (aC.length : Int) := of_decide_eq_true zz4; obtain ⟨jC, e104, dY, iA⟩ := at_T76 cB.out d1 p104 q104; cases e104; replace dY := (HB.out.cell (World.block_lt_of_cell? w _ dY)).trans dY; replace iA := (HB.out.cell (World.block_lt_of_cell? w _ iA)).trans iA; replace p104 := eq_true p104; replace q104 := eq_true q104; (go_wp2_with (first | ((with_reducible refine gate_dst (N := 9) rfl ?_); (try (refine gate_guard (by rfl) ?_; dsimp only)); refine box_event ?hg (N := 9) ?hd (cs := #[.int .i64 0, .int .i64 0]) (t := 76) ?hr ?_; (case hd => rfl); (case hg => rfl); (case hr => exact zz21); intro cY hg w29 hbox hb; have n_ := zA7 (blk_below (g := aE) (o := .cells #[.int .i64 aD, .slice (some jC) aC.length aG] 30 (0, 0)) zz1 hb) (below_step zz0 hb) hbox (zz47 : w.heap.size ≤ cY) (zz47 : w.heap.size ≤ cY) (by rw [hg]; exact Nat.ne_of_lt (blk_lt (g := aE) (o := .cells #[.int .i64 aD, .slice (some jC) aC.length aG] 30 (0, 0)) zz1) : aE ≠ cY) (by rw [hg]; exact Nat.ne_of_gt (blk_lt (g := aE) (o := .cells #[.int .i64 aD, .slice (some jC) aC.length aG] 30 (0, 0)) zz1) : cY ≠ aE); clear aA HB; obtain ⟨aA, HB, aQ, GW105, GE105, eQ, fK⟩ := n_; clear hb hbox hg; have BG := fK.out; have AS := eQ.out; have pU := zC20 aQ; have pT := zC21 aQ; have pI := blk_frozen aQ.out 0; have pH := blk_frozen aQ.out 1))); go_roundg k2; (case measure => have := HJ3.out; have := HK2.out; omega); case rel => exact ⟨(wrap64 (jM + 1)), (wrap64 (d1 + 1)), zz6, zz6, H', ⟨zz134⟩, ⟨zz92⟩, ⟨zz133⟩⟩
end Go.Proofs.Ytkcbinohpdhbgaa.P
end

section
namespace Go.Proofs.Ytkcbinohpdhbgaa.P
open Go.RowKit Go.Proofs.YtkcbinohpdhbgaaW.PrintWords Go.Proofs.YtkcbinohpdhbgaaW.PrintLast Go.Proofs.YtkcbinohpdhbgaaW.PrintMore
attribute [local go_sem] max2_int min2_int max_two min_two max_three min_three max_four min_four
set_option linter.unusedVariables false
set_option linter.unusedSimpArgs false
def spec_l01Below.f (s0_0 : List Int) (s0_1 : Int) (s0_2 : Int) (a1 : Int) : Option (Int × Int × Int) := if a1 ≤ 0 then (some (0, s0_1, s0_2)) else (if a1 ≤ 256 then ((spec_l01Byte.f s0_0 s0_1 s0_2).bind fun cA => (if a1 = 0 then (none) else (some (Int.tmod cA.1 a1, cA.2.1, cA.2.2)))) else ((spec_l01Byte.f s0_0 s0_1 s0_2).bind fun lH => ((spec_l01Byte.f s0_0 lH.2.1 lH.2.2).bind fun oR => ((spec_l01Byte.f s0_0 oR.2.1 oR.2.2).bind fun kS => ((spec_l01Byte.f s0_0 kS.2.1 kS.2.2).bind fun jS => (if a1 = 0 then (none) else (some (Int.tmod (wrap64 ((wrap64 ((wrap64 ((wrap64 (lH.1 * 16777216)) + (wrap64 (oR.1 * 65536)))) + (wrap64 (kS.1 * 256)))) + jS.1)) a1, jS.2.1, jS.2.2))))))))
theorem spec_l01Below.calls (g : Nat) (s0_0 : List Int) (s0_1 : Int) (s0_2 : Int) (a1 : Int) (r1 : Int) (r2 : Int) (r3 : Int) (w0 w : World) (hI : IsS92 w0 w g s0_0 s0_1 s0_2) (hB : Below w0.heap.size w0 w) (h : spec_l01Below.f s0_0 s0_1 s0_2 a1 = some (r1, r2, r3)) :
  Calls Try.prog 101 #[.pointer (some ⟨g, 0, none⟩), .int .i64 a1] w fun e w' => e = .returned (.int .i64 r1) ∧ IsS92 w0 w' g s0_0 r2 r3 ∧ Below w0.heap.size w0 w' ∧ KeepBut w w' g none := by
 have HI0 := zK_ hI; have HK := zK_ (KeepBut.refl w g none); have HL := zK_ hB.size; clear hI; have HW0 := zK_ hB.size; have HB := zK_ hB; clear hB; have H : (if a1 ≤ 0 then (some (0, s0_1, s0_2)) else (if a1 ≤ 256 then ((spec_l01Byte.f s0_0 s0_1 s0_2).bind fun cA => (if a1 = 0 then (none) else (some (Int.tmod cA.1 a1, cA.2.1, cA.2.2)))) else ((spec_l01Byte.f s0_0 s0_1 s0_2).bind fun lH => ((spec_l01Byte.f s0_0 lH.2.1 lH.2.2).bind fun oR => ((spec_l01Byte.f s0_0 oR.2.1 oR.2.2).bind fun kS => ((spec_l01Byte.f s0_0 kS.2.1 kS.2.2).bind fun jS => (if a1 = 0 then (none) else (some (Int.tmod (wrap64 ((wrap64 ((wrap64 ((wrap64 (lH.1 * 16777216)) + (wrap64 (oR.1 * 65536)))) + (wrap64 (kS.1 * 256)))) + jS.1)) a1, jS.2.1, jS.2.2))))))))) = some (r1, r2, r3) := h; clear h; by_cases c3 : a1 ≤ 0
 ·rw [if_pos c3] at H; have jA := decide_eq_true c3; clear c3; simp only [Option.some.injEq, Prod.mk.injEq] at H; obtain ⟨rfl, rfl, rfl⟩ := H; go_enter Try.func101, Try.ntmps101; go_wp2; go_ret; exact ⟨zz10, zz83, zz82, zz41⟩
 rw [if_neg c3] at H; have jA := decide_eq_false c3; clear c3; by_cases c4 : a1 ≤ 256
 ·rw [if_pos c4] at H; have iQ := decide_eq_true c4; clear c4; replace H := zO_ H; obtain ⟨⟨bH, aT, bD⟩, A50, H⟩ := H; dsimp only at H; have A5 := zK_ A50; clear A50; by_cases c6 : a1 = 0
  ·rw [if_pos c6] at H; exact absurd H (by simp)
  rw [if_neg c6] at H; have i9 : (a1 == 0) = false := beq_eq_false_iff_ne.mpr c6; have nX : (a1 != 0) = true := bne_iff_ne.mpr c6; simp only [Option.some.injEq, Prod.mk.injEq] at H; obtain ⟨rfl, rfl, rfl⟩ := H; go_enter Try.func101, Try.ntmps101; (go_wp2_with (first | ((with_reducible refine gate_callee (f := 54) rfl ?_); refine goesL_ (some 14) rfl rfl Try.func54 (by kernel_rfl) rfl #[.pointer (some ⟨g, 0, none⟩)] rfl zz3 ?_; (with_reducible refine (spec_l01Byte.calls g s0_0 s0_1 s0_2 bH aT bD w0 _ ?side1 ?side2 A5.out).mono ?_); (case side1 => exact zz83); (case side2 => exact zz82); rintro e w7 ⟨rfl, hi, hb, hk⟩; refine ⟨_, rfl, ?_⟩; have n_ := zA3 (KeepBut.trans zz41 hk (.inl rfl)) hb hi; clear HK HB HI0; obtain ⟨HK, HB, HI0⟩ := n_; clear hi hb hk))); go_ret; exact ⟨zz10, zz83, zz82, zz41⟩
 rw [if_neg c4] at H; have iQ := decide_eq_false c4; clear c4; replace H := zO_ H; obtain ⟨⟨fH, cM, bT⟩, A80, H⟩ := H; dsimp only at H; have A8 := zK_ A80; clear A80; replace H := zO_ H; obtain ⟨⟨gU, d9, cT⟩, A90, H⟩ := H; dsimp only at H; have A9 := zK_ A90; clear A90; replace H := zO_ H; obtain ⟨⟨fW, iL, fE⟩, A100, H⟩ := H; dsimp only at H; have A10 := zK_ A100; clear A100; replace H := zO_ H; obtain ⟨⟨fD, nJ, hU⟩, A110, H⟩ := H; dsimp only at H; have A11 := zK_ A110; clear A110; by_cases c12 : a1 = 0
 ·rw [if_pos c12] at H; exact absurd H (by simp)
 rw [if_neg c12] at H; have mJ : (a1 == 0) = false := beq_eq_false_iff_ne.mpr c12; have u9 : (a1 != 0) = true := bne_iff_ne.mpr c12; simp only [Option.some.injEq, Prod.mk.injEq] at H; obtain ⟨rfl, rfl, rfl⟩ := H; go_enter Try.func101, Try.ntmps101; (go_wp2_with (first | ((with_reducible refine gate_callee (f := 54) rfl ?_); refine goesL_ (some 18) rfl rfl Try.func54 (by kernel_rfl) rfl #[.pointer (some ⟨g, 0, none⟩)] rfl zz3 ?_; (with_reducible refine (spec_l01Byte.calls g s0_0 s0_1 s0_2 fH cM bT w0 _ ?side1 ?side2 A8.out).mono ?_); (case side1 => exact zz83); (case side2 => exact zz82); rintro e w13 ⟨rfl, hi, hb, hk⟩; refine ⟨_, rfl, ?_⟩; have n_ := zA3 (KeepBut.trans zz41 hk (.inl rfl)) hb hi; clear HK HB HI0; obtain ⟨HK, HB, HI0⟩ := n_; clear hi hb hk) | ((with_reducible refine gate_callee (f := 54) rfl ?_); refine goesL_ (some 20) rfl rfl Try.func54 (by kernel_rfl) rfl #[.pointer (some ⟨g, 0, none⟩)] rfl zz3 ?_; (with_reducible refine (spec_l01Byte.calls g s0_0 cM bT gU d9 cT w0 _ ?side1 ?side2 A9.out).mono ?_); (case side1 => exact zz83); (case side2 => exact zz82); rintro e w14 ⟨rfl, hi, hb, hk⟩; refine ⟨_, rfl, ?_⟩; have n_ := zA3 (KeepBut.trans zz41 hk (.inl rfl)) hb hi; clear HK HB HI0; obtain ⟨HK, HB, HI0⟩ := n_; clear hi hb hk) | ((with_reducible refine gate_callee (f := 54) rfl ?_); refine goesL_ (some 22) rfl rfl Try.func54 (by kernel_rfl) rfl #[.pointer (some ⟨g, 0, none⟩)] rfl zz3 ?_; (with_reducible refine (spec_l01Byte.calls g s0_0 d9 cT fW iL fE w0 _ ?side1 ?side2 A10.out).mono ?_); (case side1 => exact zz83); (case side2 => exact zz82); rintro e w15 ⟨rfl, hi, hb, hk⟩; refine ⟨_, rfl, ?_⟩; have n_ := zA3 (KeepBut.trans zz41 hk (.inl rfl)) hb hi; clear HK HB HI0; obtain ⟨HK, HB, HI0⟩ := n_; clear hi hb hk) | ((with_reducible refine gate_callee (f := 54) rfl ?_); refine goesL_ (some 24) rfl rfl Try.func54 (by kernel_rfl) rfl #[.pointer (some ⟨g, 0, none⟩)] rfl zz3 ?_; (with_reducible refine (spec_l01Byte.calls g s0_0 iL fE fD nJ hU w0 _ ?side1 ?side2 A11.out).mono ?_); (case side1 => exact zz83); (case side2 => exact zz82); rintro e w16 ⟨rfl, hi, hb, hk⟩; refine ⟨_, rfl, ?_⟩; have n_ := zA3 (KeepBut.trans zz41 hk (.inl rfl)) hb hi; clear HK HB HI0; obtain ⟨HK, HB, HI0⟩ := n_; clear hi hb hk))); go_ret; exact ⟨zz10, zz83, zz82, zz41⟩
end Go.Proofs.Ytkcbinohpdhbgaa.P
end

