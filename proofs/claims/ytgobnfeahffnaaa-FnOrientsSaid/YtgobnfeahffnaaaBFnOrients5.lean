/- A part of the proof of FnOrients. -/
import Derived.Test.YtgobnfeahffnaaaBFnOrients4
import Derived.Test.YtgobnfeahffnaaaBFnOrients2
import Derived.Test.YtgobnfeahffnaaaBFnOrients3
import Derived.Test.YtgobnfeahffnaaaBFnOrients1
import Derived.Deep.Slices
import Derived.Lib.SmallJoins
import Derived.ChangeSame
import Derived.Test.YtgobnfeahffnaaaRows
import Derived.JoinedOf
import Derived.KernelRfl
section
namespace Go.Proofs.Ytgobnfeahffnaaa.Cf
set_option linter.unusedVariables false
set_option linter.unusedSimpArgs false
open Go.RowKit Go.Proofs.YtgobnfeahffnaaaW.PrintWords Go.Proofs.Ytgobnfeahffnaaa.P
def rev (l : List Int) : List Int := l.map (fun x => if x = 0 then 1 else 0)
theorem rev_len (l : List Int) : (rev l).length = l.length := by simp [rev]
theorem rev_take {l : List Int} {i : Nat} (h : i < l.length) : rev (l.take (i + 1)) = rev (l.take i) ++ [if l[i] = 0 then 1 else 0] := by
  unfold rev
  rw [List.take_succ_eq_append_getElem h, List.map_append]
  rfl
theorem implRev_l0 (x7 : List Int) (h : x7.length ≤ 1048576) : ∀ (d i : Nat), i + d = x7.length → Ep (fun k => impl_ReverseOrient.l0 k (rev (x7.take i)) x7 (x7.length : Int) (i : Int)) (· = rev x7) := by
  intro d
  induction d with
  | zero =>
    intro i hi
    refine Ep.up ?_
    simp only [impl_ReverseOrient.l0]
    refine Ep.neg (by omega) (Ep.now ?_)
    rw [List.take_of_length_le (by omega)]
  | succ d ih =>
    intro i hi
    have hl : (rev (x7.take i)).length < 17592186044416 := by rw [rev_len, List.length_take]; omega
    refine Ep.up ?_
    simp only [impl_ReverseOrient.l0]
    refine Ep.pos (by omega) (Ep.pos (by omega) (Ep.pos (by omega) ?_))
    have := ih (i + 1) (by omega)
    rw [rev_take (show i < x7.length by omega)] at this
    rw [rd_get (show i < x7.length by omega), wrap_succ (by omega)]
    refine Ep.ite (fun e => Ep.pos hl ?_) (fun e => Ep.pos hl ?_)
    · rw [if_pos e] at this; exact this
    · rw [if_neg e] at this; exact this
theorem implRev (l : List Int) (h : l.length ≤ 1048576) : Ep (fun k => impl_ReverseOrient.f k l) (· = rev l) := by
  simp only [impl_ReverseOrient.f]
  exact implRev_l0 l h l.length 0 (by omega)
end Go.Proofs.Ytgobnfeahffnaaa.Cf
end

section
namespace Go.Proofs.Ytgobnfeahffnaaa.Cf
set_option linter.unusedVariables false
set_option linter.unusedSimpArgs false
open Go.RowKit Go.Proofs.YtgobnfeahffnaaaW.PrintWords Go.Proofs.YtgobnfeahffnaaaW.PrintMore Go.Proofs.Ytgobnfeahffnaaa.P
theorem implFlip_l0 {n : Int} {es : List E} (hes : ∀ e ∈ es, EOk n e) (hel : es.length ≤ 12) {o : List Int} (hl : o.length = es.length) (ho : ∀ x ∈ o, x = 0 ∨ x = 1) (v : Int) (hv : ∀ i, (h : i < es.length) → (h2 : i < o.length) → headO es[i] o[i] ≠ v) : ∀ (d i : Nat), i + d = es.length → Ep (fun k => impl_FlipSource.l0 k v (flipTo es o v i) es (es.length : Int) (i : Int)) (· = (flipTo es o v es.length, true)) := by
  intro d
  induction d with
  | zero =>
    intro i hi
    obtain rfl : i = es.length := by omega
    refine Ep.up ?_
    simp only [impl_FlipSource.l0]
    exact Ep.neg (by omega) (Ep.now rfl)
  | succ d ih =>
    intro i hi
    have hlt : i < es.length := by omega
    have hlo : i < o.length := by omega
    have hx := ho _ (List.getElem_mem hlo)
    have hh := hv i hlt hlo
    have hfl := flipTo_len es o v i
    have ih' := ih (i + 1) (by omega)
    refine Ep.up ?_
    simp only [impl_FlipSource.l0]
    rw [rdE_get hlt, wrap_succ (by omega)]
    refine Ep.pos (by omega) (Ep.pos (by omega) (Ep.pos (by omega) (Ep.ite (fun h => ?_) (fun h => Ep.ite (fun h2 => ?_) (fun h2 => ?_)))))
    · have e : 1 - o[i] = 1 := by
        unfold headO at hh
        by_cases c : o[i] = 0
        · omega
        · rw [if_neg c] at hh
          exact absurd h.symm hh
      rw [← flipTo_set hlt hlo (.inl h.symm), e] at ih'
      exact Ep.pos (by omega) ih'
    · have e : 1 - o[i] = 0 := by
        unfold headO at hh
        by_cases c : o[i] = 0
        · rw [if_pos c] at hh
          exact absurd h2.symm hh
        · omega
      rw [← flipTo_set hlt hlo (.inr h2.symm), e] at ih'
      exact Ep.pos (by omega) ih'
    · rw [flipTo_stay hlt (by rintro (x | x); exact h x.symm; exact h2 x.symm)] at ih'
      exact ih'
theorem implFlip (n : Int) (es : List E) (o : List Int) (v : Int) (hl : o.length ≤ 1048576) : Ep (fun k => impl_FlipSource.f k n es o v) (· = flipO n es o v) := by
  simp only [impl_FlipSource.f]
  have no : ¬ v ∈ srcO n es o → ([], false) = flipO n es o v := fun h => by unfold flipO; rw [if_neg h]
  refine Ep.bind (implSrc n es o hl) ?_
  rintro _ rfl
  refine Ep.bind (contains_ok _ v (by have := srcO_len n es o; omega)) ?_
  rintro _ rfl
  refine Ep.ite (fun h2 => ?_) (fun h2 => Ep.now (no (by simpa using h2)))
  have hm : v ∈ srcO n es o := by simpa using h2
  obtain ⟨⟨hg, hlen, ho⟩, _, hv⟩ := srcO_mem hm
  have hg1 := hg.1
  unfold EsOk at hg1
  refine Ep.bind0 (copy_eq o hl) ?_
  have := implFlip_l0 hg1.2.2.2 hg1.2.2.1 hlen ho v hv es.length 0 (by omega)
  rw [flipTo_zero] at this
  refine this.mono ?_
  rintro _ rfl
  unfold flipO
  rw [if_pos hm]
end Go.Proofs.Ytgobnfeahffnaaa.Cf
end

section
namespace Go.Proofs.Ytgobnfeahffnaaa.Cf
set_option linter.unusedVariables false
set_option linter.unusedSimpArgs false
open Go.RowKit Go.Proofs.YtgobnfeahffnaaaW.PrintWords Go.Proofs.Ytgobnfeahffnaaa.P
theorem cntH_bd {n : Int} (v : Int) (es : List E) (o : List Int) (hes : ∀ e ∈ es, EOk n e) (hl : o.length = es.length) (hel : es.length ≤ 12) : 0 ≤ cntH v es o ∧ cntH v es o ≤ 12 := by
  have h2 := cntH_nonneg v es o
  have h3 := cnt_val v es o hes hl
  have h4 := val_le es v
  have h5 : ∀ (es : List E) (o : List Int), 0 ≤ cntT v es o := by
    intro es
    induction es with
    | nil => intro o; simp [cntT]
    | cons e r ih =>
      intro o
      cases o with
      | nil => simp [cntT]
      | cons x o =>
        have := ih o
        show 0 ≤ (if tailO e x = v then (1 : Int) else 0) + cntT v r o
        split <;> omega
  have := h5 es o
  omega
theorem divL_bd {n : Nat} {es : List E} {o : List Int} (ho : OrOk (n : Int) es o) : (divL (n : Int) es o).length = n ∧ Bd (divL (n : Int) es o) 11 := by
  have hG := ho.1.1
  unfold EsOk at hG
  have hl : (divL (n : Int) es o).length = n := (rd_divL ho (v := 0) (by omega) (by omega)).1
  refine ⟨hl, fun v v0 v1 => ?_⟩
  rw [(rd_divL ho (v := v) v0 (by omega)).2]
  have := cntH_bd v es o hG.2.2.2 ho.2.1 hG.2.2.1
  omega
theorem bd_mod {x : List Int} {B : Int} (hB : B ≤ 1000000) (h : Bd x B) : Mod x := by
  intro y hy
  obtain ⟨i, hi, rfl⟩ := List.getElem_of_mem hy
  have := h (i : Int) (by omega) (by omega)
  rw [rd_get hi] at this
  omega
theorem law_FnOrients (l : List Int) (wl : SL (Wf .u8) l) : Ep (fun k => laws_FnOrients.f k l) (· = true) := by
  simp only [laws_FnOrients.f]
  refine Ep.ite (fun _ => Ep.now rfl) (fun hc => ?_)
  have hb : l.length ≤ 1048576 := by omega
  refine Ep.bind (makeGraph l hb) ?_
  rintro ⟨n', es⟩ ⟨n, hn, h2, h5, hg⟩
  dsimp only at hn hg ⊢
  subst hn
  refine Ep.bind (makeNum l hb 60 (by omega)) ?_
  rintro t ⟨t0, t1⟩
  refine Ep.neg (by omega) ?_
  have hq' : 0 ≤ Int.tmod t n ∧ Int.tmod t n < n := ⟨Int.tmod_nonneg _ t0, Int.tmod_lt_of_pos _ (by omega)⟩
  generalize Int.tmod t n = q at hq' ⊢
  have g : Gr n es q := Gr.of hg hq'
  have hel := g.hel
  refine Ep.pos (by omega) (Ep.pos (by omega) ?_)
  rw [Int.toNat_natCast]
  have hn : Wf .i64 (n : Int) := by simp [Wf, Lit.wf, IntKind.min, IntKind.max, IntKind.signed, IntKind.bits]; omega
  obtain ⟨ho, hrk, hs1, hs2⟩ := burnt_ok g hg (d := rd (List.replicate n 0)) (fun v _ _ => rd_replicate n v)
  obtain ⟨_, hbl, _⟩ := burn_all g (d := rd (List.replicate n 0)) (fun v _ _ => rd_replicate n v)
  refine Ep.bind (P := (· = (burntL es (burnF n es (rd (List.replicate n 0)) q), true))) ((implObb _ es _ q hn (by omega) (by simp; omega)).mono (by
    rintro _ rfl
    have hk : bOk (n : Int) es (List.replicate n 0) q = true := by
      unfold bOk
      rw [Bool.and_eq_true, decide_eq_true_eq, dOk_iff]
      exact ⟨⟨hg, by simp, fun x hx => by rw [List.eq_of_mem_replicate hx]; omega⟩, hq'⟩
    unfold obbO
    rw [bfO_yes hk, if_pos ⟨hk, by dsimp only; omega⟩])) ?_
  rintro _ rfl
  dsimp only
  generalize burntL es (burnF n es (rd (List.replicate n 0)) q) = o at ho hrk hs1 hs2 ⊢
  generalize (fun v => idxF v (burnF n es (rd (List.replicate n 0)) q) 0) = r at hrk
  clear hbl
  have hol : o.length ≤ 1048576 := by have := ho.2.1; omega
  obtain ⟨hdl, hdb⟩ := divL_bd ho
  refine Ep.bind (P := (· = (divL (n : Int) es o, true))) ((implDivO _ es o hol).mono (by
    rintro _ rfl
    unfold divO
    rw [if_pos (orB_iff.2 ho)])) ?_
  rintro _ rfl
  dsimp only
  refine Ep.bind (implRev o hol) ?_
  rintro _ rfl
  have ho' : OrOk (n : Int) es (rev o) := ⟨hg, by rw [rev_len]; exact ho.2.1, fun x hx => by
    unfold rev at hx
    obtain ⟨y, _, rfl⟩ := List.mem_map.1 hx
    split
    · exact .inr rfl
    · exact .inl rfl⟩
  obtain ⟨hdl', hdb'⟩ := divL_bd ho'
  refine Ep.bind (P := (· = (divL (n : Int) es (rev o), true))) ((implDivO _ es (rev o) (by rw [rev_len]; exact hol)).mono (by
    rintro _ rfl
    unfold divO
    rw [if_pos (orB_iff.2 ho')])) ?_
  rintro _ rfl
  dsimp only
  refine Ep.pos rfl (Ep.pos rfl (Ep.pos rfl ?_))
  simp only [impl_DegreeOf.f]
  have hmod : Mod (divL (n : Int) es o) := bd_mod (by omega) hdb
  refine Ep.bind (P := (· = (es.length : Int) - n)) (Ep.bind (implSum _ (by omega) hmod) (by
    rintro _ rfl
    exact Ep.now (divL_sum ho))) ?_
  rintro _ rfl
  refine Ep.bind0 (implGenus hg) (Ep.pos (by rw [wrap_id (by omega) (by omega)]; omega) ?_)
  refine Ep.bind (P := (· = true)) ((implAc _ es o hol).mono (by rintro _ rfl; exact acB_ranked ho hrk)) ?_
  rintro _ rfl
  refine Ep.pos rfl (Ep.bind (P := (· = [q])) ((implSrc _ es o hol).mono (by rintro _ rfl; exact srcO_burnt ho hq' hs1 hs2)) ?_)
  rintro _ rfl
  refine Ep.bind (same_yes rfl (by simp)) ?_
  rintro _ rfl
  refine Ep.pos rfl (Ep.bind (P := (· = false)) ((implIsWin (n := n) (by omega) hmod).mono (by rintro _ rfl; rw [ranked_win ho hrk, Bool.and_false])) ?_)
  rintro _ rfl
  refine Ep.up ?_
  simp only [laws_FnOrients.j0]
  refine Ep.neg (by simp) ?_
  simp only [impl_AddDivisors.f]
  refine Ep.bind (P := (· = (canL n es, true))) (Ep.pos (by omega) (Ep.bind (implPlus _ _ (by omega) (by omega) (hdb.mono (by omega)) (hdb'.mono (by omega))) (by
    rintro _ rfl
    refine Ep.now ?_
    have e : plusL (divL (n : Int) es o) (divL (n : Int) es (rev o)) = canL n es := by
      unfold plusL canL
      rw [hdl]
      refine repL_congr fun v v0 v1 => ?_
      rw [(rd_divL ho v0 v1).2, (rd_divL ho' v0 v1).2]
      have h1 := cntH_rev v es o ho.2.2
      have h2 := cnt_val v es o g.hes ho.2.1
      unfold rev
      omega
    rw [e]))) ?_
  rintro _ rfl
  dsimp only
  have hsq : q ∈ srcO (n : Int) es o := by rw [srcO_burnt ho hq' hs1 hs2]; simp
  refine Ep.bind (P := (· = (flipTo es o q es.length, true))) ((implFlip _ es o q hol).mono (by
    rintro _ rfl
    unfold flipO
    rw [if_pos hsq])) ?_
  rintro _ rfl
  dsimp only
  refine Ep.pos rfl (Ep.bind (implCan hg) ?_)
  rintro _ rfl
  refine Ep.bind (same_yes rfl (by rw [canL, repL_len]; omega)) ?_
  rintro _ rfl
  refine Ep.pos rfl (Ep.pos rfl ?_)
  have hfo := flip_ok (q := q) ho
  obtain ⟨M, hM⟩ : ∃ M : Int, ∀ v : Int, 0 ≤ v → v < n → r v < M := by
    obtain ⟨m, _, hm⟩ := exists_max (n := n) (by omega) r
    exact ⟨r m + 1, fun v v0 v1 => by have := hm v v0 v1; omega⟩
  obtain ⟨hfr, hfq⟩ := flip_ranked ho hrk hs1 hM
  have hfl : (flipTo es o q es.length).length ≤ 1048576 := by rw [flipTo_len]; exact hol
  refine Ep.bind (P := (· = true)) ((implAc _ es _ hfl).mono (by rintro _ rfl; exact acB_ranked hfo hfr)) ?_
  rintro _ rfl
  refine Ep.pos rfl (Ep.bind (implSrc _ es _ hfl) ?_)
  rintro _ rfl
  refine Ep.bind (P := (· = false)) ((has_ok _ q (by have := srcO_len (n : Int) es (flipTo es o q es.length); omega)).mono (by
    rintro _ rfl
    rw [decide_eq_false_iff_not]
    intro hm
    have hno := (srcO_mem hm).2.2
    obtain ⟨w, w0, w1, hw⟩ : ∃ w : Int, 0 ≤ w ∧ w < n ∧ w ≠ q := by
      by_cases c : q = 0
      · exact ⟨1, by omega, by omega, by omega⟩
      · exact ⟨0, by omega, by omega, by omega⟩
    have hcn : Conn es w q := (g.hj w w0 w1).symm.trans (g.hj q hq'.1 hq'.2)
    obtain ⟨u, x, ⟨e, he, hx⟩, hu, hx2⟩ := exists_cut (S := (· = q)) hcn hw rfl
    obtain ⟨i, hi, rfl⟩ := List.getElem_of_mem he
    have hi2 : i < (flipTo es o q es.length).length := by rw [flipTo_len]; have := ho.2.1; omega
    exact hno i hi hi2 (hfq i hi hi2 (by omega)))) ?_
  rintro _ rfl
  exact Ep.now rfl
end Go.Proofs.Ytgobnfeahffnaaa.Cf
end

section
namespace Go.Proofs.Ytgobnfeahffnaaa.Cf
set_option linter.unusedVariables false
set_option linter.unusedSimpArgs false
open Go.RowKit Go.ChangeShapes Go.WideShapes Go.Deep Go.Joins Go.Proofs.YtgobnfeahffnaaaW.PrintWords
section
variable {H : Type} {enc : TypeId × Value → H} {P : Program} {w : World} {base : Nat} {spare : Nat → Bool} {held : Bool}
/-- A slice, whatever its elements are, if each of them can be told. -/
theorem trod_C {α : Type} {d : Kd α} {Q : α → Prop} (hd : Inhabited α) {t e : TypeId} {fuel : Nat} {cs : List Value} {x : DataW H × List MemPlace} (ht : P.underlying t = some (.slice e)) (hsz : P.cellsOf e = d.sz)
    (hel : ∀ (n : Nat) (cs : List Value) (y : DataW H × List MemPlace), DataW.trod enc P w base spare held n e cs = some y → ∃ a : α, d.K w a cs ∧ Q a)
    (h : DataW.trod enc P w base spare held fuel t cs = some x) : ∃ A len cap xs, cs = [.slice A len cap] ∧ xs.length = len ∧ len ≤ cap ∧ Kd.C d w A len xs ∧ SL Q xs := by
  rcases open_slice ht h with ⟨rfl, _⟩ | ⟨a, len, cap, m, n, D, Pl, rfl, _, hl, hm, hmm, _, hx⟩
  · exact ⟨none, 0, 0, [], rfl, rfl, Nat.le_refl _, ⟨rfl, by omega, fun hn => by omega⟩, by simp, fun x hx => by cases hx⟩
  · have hlm : len ≤ m := by rw [hmm]; split <;> omega
    obtain ⟨X, hX⟩ := choose_lt (α := α) (n := len) (p := fun i z => Q z ∧ ∃ c, c.length = d.sz ∧ d.K w z c ∧ ∀ j u, c[j]? = some u → w.cell? (a.add (i * d.sz + j)) = some u) (fun i hi => by
      obtain ⟨cs', h1, h2⟩ := hx i (by omega)
      obtain ⟨z, hz, hq⟩ := hel n cs' _ h2
      obtain ⟨_, hlen, hc⟩ := World.cells?_some h1
      refine ⟨z, hq, cs', by rw [hlen, hsz], hz, fun j u hj => ?_⟩
      have hjl : j < cs'.length := by
        apply Classical.byContradiction
        intro hc
        rw [List.getElem?_eq_none (by omega)] at hj
        cases hj
      have := hc j (by omega)
      rw [Deep.add_add, hsz] at this
      rw [this, hj])
    refine ⟨some a, len, cap, (List.range len).map X, rfl, by simp, hl, ⟨by simp, ?_, fun _ => ⟨a, rfl, fun j p hj => ?_⟩⟩, by simp; unfold maxLen at hm; omega, fun x hx => ?_⟩
    · unfold maxLen at hm
      omega
    · have hjl : j < len := by
        apply Classical.byContradiction
        intro hc
        rw [List.getElem?_eq_none (by simp; omega)] at hj
        cases hj
      have : p = X j := by
        rw [List.getElem?_eq_getElem (by simpa using hjl)] at hj
        simpa using hj.symm
      subst this
      exact (hX j hjl).2
    · obtain ⟨i, hi, rfl⟩ := List.mem_map.1 hx
      exact (hX i (List.mem_range.1 hi)).1
theorem el_int {k : IntKind} {e : TypeId} (he : P.underlying e = some (.int k)) : ∀ (n : Nat) (cs : List Value) (y : DataW H × List MemPlace), DataW.trod enc P w base spare held n e cs = some y → ∃ a : Int, (Kd.int k).K w a cs ∧ Wf k a := by
  intro n cs y h
  obtain ⟨a, rfl, _, hw⟩ := DataW.trod_int he h
  exact ⟨a, rfl, hw⟩
/-- A slice that comes in. -/
theorem arg_slice {α : Type} {d : Kd α} {Q : α → Prop} (hd : Inhabited α) {t e : TypeId} {a : Option Addr} {len cap : Nat} {x : DataW H} {ps : List MemPlace} (ht : P.underlying t = some (.slice e)) (hsz : P.cellsOf e = d.sz)
    (hel : ∀ (n : Nat) (cs : List Value) (y : DataW H × List MemPlace), DataW.trod enc P w base spare held n e cs = some y → ∃ a : α, d.K w a cs ∧ Q a)
    (h : DataW.Trod enc P w base spare held t (.slice a len cap) x ps) : ∃ xs : List α, xs.length = len ∧ len ≤ cap ∧ Kd.C d w a len xs ∧ SL Q xs := by
  obtain ⟨fuel, hf⟩ := h
  obtain ⟨A, l, c, xs, hcs, hl, hc, hC, hq⟩ := trod_C hd ht hsz hel hf
  simp [Value.cells] at hcs
  obtain ⟨rfl, rfl, rfl⟩ := hcs
  exact ⟨xs, hl, hc, hC, hq⟩
end
end Go.Proofs.Ytgobnfeahffnaaa.Cf
end

section
namespace Go.Proofs.Ytgobnfeahffnaaa.Cf
theorem and2 {a b : Bool} (h : a = true) (k : b = true) : (a && b) = true := by rw [h, k]; rfl
theorem iniS : Try.prog.initOrder.toList = ['h', 'a', 'r', 'n', 'e', 's', 's', ' ', '8', '5', '5', '5', '5', '4', '9', '6', '9', 'c', 'f', '8', '4', 'a', '9', '0', '1', '2', '7', 'f', '4', '7', '3', '1', '9', 'b', '4', 'd', '8', 'a', 'a', '0', 'f', 'f', '0', 'e', 'a', '8', '9', '4', '2', '2', '1', '3', '3', '4', '0', '4', '7', '0', '2', '9', 'f', 'f', 'd', 'b', '6', '8', '2', '7', '9', '3', '9', '9', ' ', 'c', 'u', 't', ' ', 'a', 't', ' ', 'l', 'o', 'o', 'p', '.', 'e', 'x', 'a', 'm', 'p', 'l', 'e', '/', 'g', '0', '0', '8', '4', '1', '/', 'l', 'a', 'w', 's', '.', 'F', 'n', 'R', 'e', 'c', 'u', 'r', 'r', 'e', 'n', 't', ' ', 'l', 'o', 'o', 'p', '.', 'e', 'x', 'a', 'm', 'p', 'l', 'e', '/', 'g', '0', '0', '8', '4', '1', '/', 'l', 'a', 'w', 's', '.', 'F', 'n', 'A', 'b', 'e', 'l', 'i', 'a', 'n', ' ', 'l', 'o', 'o', 'p', '.', 'e', 'x', 'a', 'm', 'p', 'l', 'e', '/', 'g', '0', '0', '8', '4', '1', '/', 'l', 'a', 'w', 's', '.', 'F', 'n', 'E', 'x', 'a', 'c', 't', 'S', 'u', 'm', 'O', 'f', 'P', 'i', 'l', 'e', 's', ' ', 'l', 'o', 'o', 'p', '.', 'e', 'x', 'a', 'm', 'p', 'l', 'e', '/', 'g', '0', '0', '8', '4', '1', '/', 'l', 'a', 'w', 's', '.', 'F', 'n', 'E', 'x', 'a', 'c', 't', 'S', 'u', 'm', 'O', 'f', 'C', 'l', 'a', 's', 's', 'e', 's', ' ', 'l', 'o', 'o', 'p', '.', 'e', 'x', 'a', 'm', 'p', 'l', 'e', '/', 'g', '0', '0', '8', '4', '1', '/', 'l', 'a', 'w', 's', '.', 'F', 'n', 'E', 'x', 'a', 'c', 't', 'I', 'd', 'e', 'n', 't', 'i', 't', 'y', 'P', 'i', 'l', 'e', ' ', 'l', 'o', 'o', 'p', '.', 'e', 'x', 'a', 'm', 'p', 'l', 'e', '/', 'g', '0', '0', '8', '4', '1', '/', 'l', 'a', 'w', 's', '.', 'F', 'n', 'O', 'r', 'i', 'e', 'n', 't', 's'] := by
  have h : Try.prog.initOrder = String.ofList ['h', 'a', 'r', 'n', 'e', 's', 's', ' ', '8', '5', '5', '5', '5', '4', '9', '6', '9', 'c', 'f', '8', '4', 'a', '9', '0', '1', '2', '7', 'f', '4', '7', '3', '1', '9', 'b', '4', 'd', '8', 'a', 'a', '0', 'f', 'f', '0', 'e', 'a', '8', '9', '4', '2', '2', '1', '3', '3', '4', '0', '4', '7', '0', '2', '9', 'f', 'f', 'd', 'b', '6', '8', '2', '7', '9', '3', '9', '9', ' ', 'c', 'u', 't', ' ', 'a', 't', ' ', 'l', 'o', 'o', 'p', '.', 'e', 'x', 'a', 'm', 'p', 'l', 'e', '/', 'g', '0', '0', '8', '4', '1', '/', 'l', 'a', 'w', 's', '.', 'F', 'n', 'R', 'e', 'c', 'u', 'r', 'r', 'e', 'n', 't', ' ', 'l', 'o', 'o', 'p', '.', 'e', 'x', 'a', 'm', 'p', 'l', 'e', '/', 'g', '0', '0', '8', '4', '1', '/', 'l', 'a', 'w', 's', '.', 'F', 'n', 'A', 'b', 'e', 'l', 'i', 'a', 'n', ' ', 'l', 'o', 'o', 'p', '.', 'e', 'x', 'a', 'm', 'p', 'l', 'e', '/', 'g', '0', '0', '8', '4', '1', '/', 'l', 'a', 'w', 's', '.', 'F', 'n', 'E', 'x', 'a', 'c', 't', 'S', 'u', 'm', 'O', 'f', 'P', 'i', 'l', 'e', 's', ' ', 'l', 'o', 'o', 'p', '.', 'e', 'x', 'a', 'm', 'p', 'l', 'e', '/', 'g', '0', '0', '8', '4', '1', '/', 'l', 'a', 'w', 's', '.', 'F', 'n', 'E', 'x', 'a', 'c', 't', 'S', 'u', 'm', 'O', 'f', 'C', 'l', 'a', 's', 's', 'e', 's', ' ', 'l', 'o', 'o', 'p', '.', 'e', 'x', 'a', 'm', 'p', 'l', 'e', '/', 'g', '0', '0', '8', '4', '1', '/', 'l', 'a', 'w', 's', '.', 'F', 'n', 'E', 'x', 'a', 'c', 't', 'I', 'd', 'e', 'n', 't', 'i', 't', 'y', 'P', 'i', 'l', 'e', ' ', 'l', 'o', 'o', 'p', '.', 'e', 'x', 'a', 'm', 'p', 'l', 'e', '/', 'g', '0', '0', '8', '4', '1', '/', 'l', 'a', 'w', 's', '.', 'F', 'n', 'O', 'r', 'i', 'e', 'n', 't', 's'] := by kernel_rfl
  exact (congrArg String.toList h).trans String.toList_ofList
theorem iniW : behindMainWord (wordsSigns Try.prog.initOrder.toList) = [['c', 'u', 't'], ['a', 't'], ['l', 'o', 'o', 'p', '.', 'e', 'x', 'a', 'm', 'p', 'l', 'e', '/', 'g', '0', '0', '8', '4', '1', '/', 'l', 'a', 'w', 's', '.', 'F', 'n', 'R', 'e', 'c', 'u', 'r', 'r', 'e', 'n', 't'], ['l', 'o', 'o', 'p', '.', 'e', 'x', 'a', 'm', 'p', 'l', 'e', '/', 'g', '0', '0', '8', '4', '1', '/', 'l', 'a', 'w', 's', '.', 'F', 'n', 'A', 'b', 'e', 'l', 'i', 'a', 'n'], ['l', 'o', 'o', 'p', '.', 'e', 'x', 'a', 'm', 'p', 'l', 'e', '/', 'g', '0', '0', '8', '4', '1', '/', 'l', 'a', 'w', 's', '.', 'F', 'n', 'E', 'x', 'a', 'c', 't', 'S', 'u', 'm', 'O', 'f', 'P', 'i', 'l', 'e', 's'], ['l', 'o', 'o', 'p', '.', 'e', 'x', 'a', 'm', 'p', 'l', 'e', '/', 'g', '0', '0', '8', '4', '1', '/', 'l', 'a', 'w', 's', '.', 'F', 'n', 'E', 'x', 'a', 'c', 't', 'S', 'u', 'm', 'O', 'f', 'C', 'l', 'a', 's', 's', 'e', 's'], ['l', 'o', 'o', 'p', '.', 'e', 'x', 'a', 'm', 'p', 'l', 'e', '/', 'g', '0', '0', '8', '4', '1', '/', 'l', 'a', 'w', 's', '.', 'F', 'n', 'E', 'x', 'a', 'c', 't', 'I', 'd', 'e', 'n', 't', 'i', 't', 'y', 'P', 'i', 'l', 'e'], ['l', 'o', 'o', 'p', '.', 'e', 'x', 'a', 'm', 'p', 'l', 'e', '/', 'g', '0', '0', '8', '4', '1', '/', 'l', 'a', 'w', 's', '.', 'F', 'n', 'O', 'r', 'i', 'e', 'n', 't', 's']] := (congrArg (fun x => behindMainWord (wordsSigns x)) iniS).trans (by kernel_rfl)
theorem mk_cut {P : Program} {r : List (List Char)} (h : behindMainWord (wordsSigns P.initOrder.toList) = ['c', 'u', 't'] :: r) : P.make = some .cut := by
  unfold Program.make
  rw [h]
  rfl
theorem lf_cut {P : Program} {r : List (List Char)} (h : behindMainWord (wordsSigns P.initOrder.toList) = ['c', 'u', 't'] :: r) (k : (stripLifts liftWords (['c', 'u', 't'] :: r)).1 = []) : P.liftsFinal = false := by
  unfold Program.liftsFinal Program.headLifts
  rw [h]
  simp [k]
theorem en_cut {P : Program} {r : List (List Char)} (h : behindMainWord (wordsSigns P.initOrder.toList) = ['c', 'u', 't'] :: r) (k1 : (stripLifts liftWords (['c', 'u', 't'] :: r)).1 = []) (k2 : ((stripLifts liftWords (['c', 'u', 't'] :: r)).2.head? == some "cut".toList) = true) (h1 : P.laysLater = false) (h2 : P.bearsReflect = false) (h3 : P.doorFits [] = true) : P.mayEnter = true := by
  unfold Program.mayEnter
  rw [h]
  simp only [k1, k2, h1, h2, h3]
  simp
theorem make : Try.prog.make = some .cut := mk_cut iniW
theorem lifted : Try.prog.liftsFinal = false := lf_cut iniW (by kernel_rfl)
theorem enter : Try.prog.mayEnter = true := en_cut iniW (by kernel_rfl) (by kernel_rfl) (by kernel_rfl) (by kernel_rfl) (by kernel_rfl)
end Go.Proofs.Ytgobnfeahffnaaa.Cf
end

