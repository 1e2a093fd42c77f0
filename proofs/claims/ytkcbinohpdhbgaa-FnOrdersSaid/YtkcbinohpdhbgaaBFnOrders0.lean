/- A part of the proof of FnOrders. -/
import Derived.Test.YtkcbinohpdhbgaaProg
import Derived.Below
import Derived.Deep.Draws
import Derived.Deep.AppendLies
import Derived.Maps.AppendAt
import Derived.OwnWalk
import Derived.Laws.BytesArg
import Derived.Laws.MakeOwn
import Derived.Laws.OwnMore
import Derived.Deep.OwnRows
import Derived.Tactics
import Derived.Lib.ConvBytes
import Derived.Laws.Slices
import Derived.WalkKit
import Derived.KernelRfl
import Derived.RowKit3
import Derived.Deep.LoopGhost
import Derived.Deep.QuietTactic
import Derived.BigQuiet
import Derived.WideLaws
import Derived.Deep.DeepCutAuto
import Derived.Deep.CutBlock
import Derived.Deep.RegionHeld3
import Derived.Laws.Rows
import Derived.Lib.AppendStr
import Derived.ArgAppend
import Derived.Laws.IdiomCopy
import Derived.OrdersHeld
import Derived.Laws.BitsLemmas
import Derived.RowKit
import Derived.Test.YtkcbinohpdhbgaaBFnOrdersWWords
import Derived.Test.YtkcbinohpdhbgaaBFnOrdersWLast
import Derived.Test.YtkcbinohpdhbgaaBFnOrdersWTab
import Derived.Test.YtkcbinohpdhbgaaBFnOrdersWApart
import Derived.Test.YtkcbinohpdhbgaaBFnOrdersWArr
import Derived.Test.YtkcbinohpdhbgaaBFnOrdersWFoot
import Derived.Test.YtkcbinohpdhbgaaBFnOrdersWKept
import Derived.Test.YtkcbinohpdhbgaaBFnOrdersWShare
import Derived.Test.YtkcbinohpdhbgaaBFnOrdersWN
import Derived.Laws.StructEq
import Derived.Test.YtkcbinohpdhbgaaBFnOrdersWRepsOne
import Derived.Test.YtkcbinohpdhbgaaBFnOrdersWInv
import Derived.Test.YtkcbinohpdhbgaaBFnOrdersWGuard
import Derived.Test.YtkcbinohpdhbgaaBFnOrdersWMore
set_option maxHeartbeats 8000000
set_option maxRecDepth 100000
section
namespace Go.Proofs.Ytkcbinohpdhbgaa.Cf
set_option linter.unusedVariables false
set_option linter.unusedSimpArgs false
structure E where
 f0 : Int
 f1 : Int
 deriving DecidableEq
end Go.Proofs.Ytkcbinohpdhbgaa.Cf
end

section
namespace Go.Proofs.Ytkcbinohpdhbgaa.P
open Go.RowKit Go.Proofs.YtkcbinohpdhbgaaW.PrintWords Go.Proofs.YtkcbinohpdhbgaaW.PrintLast Go.Proofs.YtkcbinohpdhbgaaW.PrintMore
attribute [local go_sem] max2_int min2_int max_two min_two max_three min_three max_four min_four
set_option linter.unusedVariables false
set_option linter.unusedSimpArgs false
def errW : Option Int → Value
 | none => .nilIface
 | some c => .iface 0 (.int .i64 c)
theorem errW_none : errW none = .nilIface := rfl
theorem errW_some (c : Int) : errW (some c) = .iface 0 (.int .i64 c) := rfl
theorem info3 : (Try.prog.info? 3).map (fun i => (i.zero, i.size, i.bytes)) = some (some (.int .i64 0), 1, 8) := by kernel_rfl
theorem info26 : (Try.prog.info? 26).map (fun i => (i.zero, i.size, i.bytes)) = some (some (.slice none 0 0), 1, 24) := by kernel_rfl
theorem info76 : (Try.prog.info? 76).map (fun i => (i.zero, i.size, i.bytes)) = some (some (.agg #[(.int .i64 0), (.int .i64 0)]), 2, 16) := by kernel_rfl
abbrev S76 := Go.Proofs.Ytkcbinohpdhbgaa.Cf.E
def z76 : S76 := ⟨(0 : Int), (0 : Int)⟩
def k76 : Kd S76 := Kd.iso (Kd.pair (Kd.int .i64) (Kd.int .i64)) (fun x : S76 => (x.f0, x.f1))
theorem k76_heap : Kd.Heap k76 := Kd.heap_iso _ (Kd.heap_pair (Kd.heap_int .i64) (Kd.heap_int .i64))
theorem k76_open {w : World} {x : S76} {cs : List Value} (h : k76.K w x cs) : cs = [.int .i64 x.f0, .int .i64 x.f1] := by
 obtain ⟨_, _, rfl, rfl, rfl⟩ := h
 exact rfl
theorem k76_mkM (w : World) (base : Nat) (ok : Nat → Prop) (x : S76)  : k76.M w base ok x [.int .i64 x.f0, .int .i64 x.f1] := ⟨[.int .i64 x.f0], [.int .i64 x.f1], rfl, rfl, rfl⟩
def rd_T76 (xs : List S76) (i : Int) : S76 := xs.getD i.toNat z76
theorem at_T76 {w : World} {A : Option Addr} {n : Nat} {xs : List S76} (h : Kd.C k76 w A n xs) (i : Int) (h0 : 0 ≤ i) (h1 : i < n) : ∃ ad , A = some ad ∧ w.cell? (ad.add (i.toNat * 2)) = some (.int .i64 (rd_T76 xs i).f0) ∧ w.cell? ⟨(ad.add (i.toNat * 2)).block, (ad.add (i.toNat * 2)).off + 1, none⟩ = some (.int .i64 (rd_T76 xs i).f1) := by
 obtain ⟨ad, c, e, _, hK, hc0⟩ := Kd.C_get h z76 i h0 h1
 have hc : ∀ j u, c[j]? = some u → w.cell? (ad.add (i.toNat * 2 + j)) = some u := hc0
 obtain rfl := k76_open hK
 exact ⟨ad, e, hc 0 _ rfl, by rw [← add_field _ _ 1 (by omega)]; exact hc 1 _ rfl⟩
def rd_L3 (xs : List (List Int)) (i : Int) : (List Int) := xs.getD i.toNat ([] : List Int)
theorem at_L3 {w : World} {A : Option Addr} {n : Nat} {xs : List (List Int)} (h : Kd.C (Kd.slice 3 (Kd.int .i64)) w A n xs) (i : Int) (h0 : 0 ≤ i) (h1 : i < n) : ∃ ad A0 c0, A = some ad ∧ w.cell? (ad.add i.toNat) = some (.slice A0 (rd_L3 xs i).length c0) ∧ (rd_L3 xs i).length ≤ c0 ∧ (Kd.int .i64).C w A0 (rd_L3 xs i).length (rd_L3 xs i) := by
 obtain ⟨ad, c, e, _, hK, hc0⟩ := Kd.C_get h ([] : List Int) i h0 h1
 have hc : ∀ j u, c[j]? = some u → w.cell? (ad.add (i.toNat * 1 + j)) = some u := hc0
 obtain ⟨A0, c0, rfl, l0, g0⟩ := hK
 exact ⟨ad, A0, c0, e, by have hq := hc 0 _ rfl; rwa [Nat.mul_one, Nat.add_zero] at hq, l0, g0⟩
end Go.Proofs.Ytkcbinohpdhbgaa.P
end

section
namespace Go.Proofs.Ytkcbinohpdhbgaa.P
open Go.RowKit Go.Proofs.YtkcbinohpdhbgaaW.PrintWords Go.Proofs.YtkcbinohpdhbgaaW.PrintLast
theorem zO_ {α β : Type} {x : Option α} {f : α → Option β} {b : β} (h : x.bind f = some b) : ∃ a, x = some a ∧ f a = some b := Option.bind_eq_some_iff.mp h
theorem zK_ {p : Prop} (h : p) : Aside0 p := ⟨h⟩
theorem zA2 {p0 p1 : Prop} (h0 : p0) (h1 : p1) : Aside0 p0 ∧ Aside0 p1 := ⟨⟨h0⟩, ⟨h1⟩⟩
theorem zA3 {p0 p1 p2 : Prop} (h0 : p0) (h1 : p1) (h2 : p2) : Aside0 p0 ∧ Aside0 p1 ∧ Aside0 p2 := ⟨⟨h0⟩, ⟨h1⟩, ⟨h2⟩⟩
theorem zA4 {p0 p1 p2 p3 : Prop} (h0 : p0) (h1 : p1) (h2 : p2) (h3 : p3) : Aside0 p0 ∧ Aside0 p1 ∧ Aside0 p2 ∧ Aside0 p3 := ⟨⟨h0⟩, ⟨h1⟩, ⟨h2⟩, ⟨h3⟩⟩
theorem zA5 {p0 p1 p2 p3 p4 : Prop} (h0 : p0) (h1 : p1) (h2 : p2) (h3 : p3) (h4 : p4) : Aside0 p0 ∧ Aside0 p1 ∧ Aside0 p2 ∧ Aside0 p3 ∧ Aside0 p4 := ⟨⟨h0⟩, ⟨h1⟩, ⟨h2⟩, ⟨h3⟩, ⟨h4⟩⟩
theorem zA6 {p0 p1 p2 p3 p4 p5 : Prop} (h0 : p0) (h1 : p1) (h2 : p2) (h3 : p3) (h4 : p4) (h5 : p5) : Aside0 p0 ∧ Aside0 p1 ∧ Aside0 p2 ∧ Aside0 p3 ∧ Aside0 p4 ∧ Aside0 p5 := ⟨⟨h0⟩, ⟨h1⟩, ⟨h2⟩, ⟨h3⟩, ⟨h4⟩, ⟨h5⟩⟩
theorem zA7 {p0 p1 p2 p3 p4 p5 p6 : Prop} (h0 : p0) (h1 : p1) (h2 : p2) (h3 : p3) (h4 : p4) (h5 : p5) (h6 : p6) : Aside0 p0 ∧ Aside0 p1 ∧ Aside0 p2 ∧ Aside0 p3 ∧ Aside0 p4 ∧ Aside0 p5 ∧ Aside0 p6 := ⟨⟨h0⟩, ⟨h1⟩, ⟨h2⟩, ⟨h3⟩, ⟨h4⟩, ⟨h5⟩, ⟨h6⟩⟩
theorem zA8 {p0 p1 p2 p3 p4 p5 p6 p7 : Prop} (h0 : p0) (h1 : p1) (h2 : p2) (h3 : p3) (h4 : p4) (h5 : p5) (h6 : p6) (h7 : p7) : Aside0 p0 ∧ Aside0 p1 ∧ Aside0 p2 ∧ Aside0 p3 ∧ Aside0 p4 ∧ Aside0 p5 ∧ Aside0 p6 ∧ Aside0 p7 := ⟨⟨h0⟩, ⟨h1⟩, ⟨h2⟩, ⟨h3⟩, ⟨h4⟩, ⟨h5⟩, ⟨h6⟩, ⟨h7⟩⟩
theorem zA9 {p0 p1 p2 p3 p4 p5 p6 p7 p8 : Prop} (h0 : p0) (h1 : p1) (h2 : p2) (h3 : p3) (h4 : p4) (h5 : p5) (h6 : p6) (h7 : p7) (h8 : p8) : Aside0 p0 ∧ Aside0 p1 ∧ Aside0 p2 ∧ Aside0 p3 ∧ Aside0 p4 ∧ Aside0 p5 ∧ Aside0 p6 ∧ Aside0 p7 ∧ Aside0 p8 := ⟨⟨h0⟩, ⟨h1⟩, ⟨h2⟩, ⟨h3⟩, ⟨h4⟩, ⟨h5⟩, ⟨h6⟩, ⟨h7⟩, ⟨h8⟩⟩
theorem zA10 {p0 p1 p2 p3 p4 p5 p6 p7 p8 p9 : Prop} (h0 : p0) (h1 : p1) (h2 : p2) (h3 : p3) (h4 : p4) (h5 : p5) (h6 : p6) (h7 : p7) (h8 : p8) (h9 : p9) : Aside0 p0 ∧ Aside0 p1 ∧ Aside0 p2 ∧ Aside0 p3 ∧ Aside0 p4 ∧ Aside0 p5 ∧ Aside0 p6 ∧ Aside0 p7 ∧ Aside0 p8 ∧ Aside0 p9 := ⟨⟨h0⟩, ⟨h1⟩, ⟨h2⟩, ⟨h3⟩, ⟨h4⟩, ⟨h5⟩, ⟨h6⟩, ⟨h7⟩, ⟨h8⟩, ⟨h9⟩⟩
theorem zA11 {p0 p1 p2 p3 p4 p5 p6 p7 p8 p9 p10 : Prop} (h0 : p0) (h1 : p1) (h2 : p2) (h3 : p3) (h4 : p4) (h5 : p5) (h6 : p6) (h7 : p7) (h8 : p8) (h9 : p9) (h10 : p10) : Aside0 p0 ∧ Aside0 p1 ∧ Aside0 p2 ∧ Aside0 p3 ∧ Aside0 p4 ∧ Aside0 p5 ∧ Aside0 p6 ∧ Aside0 p7 ∧ Aside0 p8 ∧ Aside0 p9 ∧ Aside0 p10 := ⟨⟨h0⟩, ⟨h1⟩, ⟨h2⟩, ⟨h3⟩, ⟨h4⟩, ⟨h5⟩, ⟨h6⟩, ⟨h7⟩, ⟨h8⟩, ⟨h9⟩, ⟨h10⟩⟩
theorem zA13 {p0 p1 p2 p3 p4 p5 p6 p7 p8 p9 p10 p11 p12 : Prop} (h0 : p0) (h1 : p1) (h2 : p2) (h3 : p3) (h4 : p4) (h5 : p5) (h6 : p6) (h7 : p7) (h8 : p8) (h9 : p9) (h10 : p10) (h11 : p11) (h12 : p12) : Aside0 p0 ∧ Aside0 p1 ∧ Aside0 p2 ∧ Aside0 p3 ∧ Aside0 p4 ∧ Aside0 p5 ∧ Aside0 p6 ∧ Aside0 p7 ∧ Aside0 p8 ∧ Aside0 p9 ∧ Aside0 p10 ∧ Aside0 p11 ∧ Aside0 p12 := ⟨⟨h0⟩, ⟨h1⟩, ⟨h2⟩, ⟨h3⟩, ⟨h4⟩, ⟨h5⟩, ⟨h6⟩, ⟨h7⟩, ⟨h8⟩, ⟨h9⟩, ⟨h10⟩, ⟨h11⟩, ⟨h12⟩⟩
theorem zA15 {p0 p1 p2 p3 p4 p5 p6 p7 p8 p9 p10 p11 p12 p13 p14 : Prop} (h0 : p0) (h1 : p1) (h2 : p2) (h3 : p3) (h4 : p4) (h5 : p5) (h6 : p6) (h7 : p7) (h8 : p8) (h9 : p9) (h10 : p10) (h11 : p11) (h12 : p12) (h13 : p13) (h14 : p14) : Aside0 p0 ∧ Aside0 p1 ∧ Aside0 p2 ∧ Aside0 p3 ∧ Aside0 p4 ∧ Aside0 p5 ∧ Aside0 p6 ∧ Aside0 p7 ∧ Aside0 p8 ∧ Aside0 p9 ∧ Aside0 p10 ∧ Aside0 p11 ∧ Aside0 p12 ∧ Aside0 p13 ∧ Aside0 p14 := ⟨⟨h0⟩, ⟨h1⟩, ⟨h2⟩, ⟨h3⟩, ⟨h4⟩, ⟨h5⟩, ⟨h6⟩, ⟨h7⟩, ⟨h8⟩, ⟨h9⟩, ⟨h10⟩, ⟨h11⟩, ⟨h12⟩, ⟨h13⟩, ⟨h14⟩⟩
theorem zA17 {p0 p1 p2 p3 p4 p5 p6 p7 p8 p9 p10 p11 p12 p13 p14 p15 p16 : Prop} (h0 : p0) (h1 : p1) (h2 : p2) (h3 : p3) (h4 : p4) (h5 : p5) (h6 : p6) (h7 : p7) (h8 : p8) (h9 : p9) (h10 : p10) (h11 : p11) (h12 : p12) (h13 : p13) (h14 : p14) (h15 : p15) (h16 : p16) : Aside0 p0 ∧ Aside0 p1 ∧ Aside0 p2 ∧ Aside0 p3 ∧ Aside0 p4 ∧ Aside0 p5 ∧ Aside0 p6 ∧ Aside0 p7 ∧ Aside0 p8 ∧ Aside0 p9 ∧ Aside0 p10 ∧ Aside0 p11 ∧ Aside0 p12 ∧ Aside0 p13 ∧ Aside0 p14 ∧ Aside0 p15 ∧ Aside0 p16 := ⟨⟨h0⟩, ⟨h1⟩, ⟨h2⟩, ⟨h3⟩, ⟨h4⟩, ⟨h5⟩, ⟨h6⟩, ⟨h7⟩, ⟨h8⟩, ⟨h9⟩, ⟨h10⟩, ⟨h11⟩, ⟨h12⟩, ⟨h13⟩, ⟨h14⟩, ⟨h15⟩, ⟨h16⟩⟩
theorem zA19 {p0 p1 p2 p3 p4 p5 p6 p7 p8 p9 p10 p11 p12 p13 p14 p15 p16 p17 p18 : Prop} (h0 : p0) (h1 : p1) (h2 : p2) (h3 : p3) (h4 : p4) (h5 : p5) (h6 : p6) (h7 : p7) (h8 : p8) (h9 : p9) (h10 : p10) (h11 : p11) (h12 : p12) (h13 : p13) (h14 : p14) (h15 : p15) (h16 : p16) (h17 : p17) (h18 : p18) : Aside0 p0 ∧ Aside0 p1 ∧ Aside0 p2 ∧ Aside0 p3 ∧ Aside0 p4 ∧ Aside0 p5 ∧ Aside0 p6 ∧ Aside0 p7 ∧ Aside0 p8 ∧ Aside0 p9 ∧ Aside0 p10 ∧ Aside0 p11 ∧ Aside0 p12 ∧ Aside0 p13 ∧ Aside0 p14 ∧ Aside0 p15 ∧ Aside0 p16 ∧ Aside0 p17 ∧ Aside0 p18 := ⟨⟨h0⟩, ⟨h1⟩, ⟨h2⟩, ⟨h3⟩, ⟨h4⟩, ⟨h5⟩, ⟨h6⟩, ⟨h7⟩, ⟨h8⟩, ⟨h9⟩, ⟨h10⟩, ⟨h11⟩, ⟨h12⟩, ⟨h13⟩, ⟨h14⟩, ⟨h15⟩, ⟨h16⟩, ⟨h17⟩, ⟨h18⟩⟩
theorem zA20 {p0 p1 p2 p3 p4 p5 p6 p7 p8 p9 p10 p11 p12 p13 p14 p15 p16 p17 p18 p19 : Prop} (h0 : p0) (h1 : p1) (h2 : p2) (h3 : p3) (h4 : p4) (h5 : p5) (h6 : p6) (h7 : p7) (h8 : p8) (h9 : p9) (h10 : p10) (h11 : p11) (h12 : p12) (h13 : p13) (h14 : p14) (h15 : p15) (h16 : p16) (h17 : p17) (h18 : p18) (h19 : p19) : Aside0 p0 ∧ Aside0 p1 ∧ Aside0 p2 ∧ Aside0 p3 ∧ Aside0 p4 ∧ Aside0 p5 ∧ Aside0 p6 ∧ Aside0 p7 ∧ Aside0 p8 ∧ Aside0 p9 ∧ Aside0 p10 ∧ Aside0 p11 ∧ Aside0 p12 ∧ Aside0 p13 ∧ Aside0 p14 ∧ Aside0 p15 ∧ Aside0 p16 ∧ Aside0 p17 ∧ Aside0 p18 ∧ Aside0 p19 := ⟨⟨h0⟩, ⟨h1⟩, ⟨h2⟩, ⟨h3⟩, ⟨h4⟩, ⟨h5⟩, ⟨h6⟩, ⟨h7⟩, ⟨h8⟩, ⟨h9⟩, ⟨h10⟩, ⟨h11⟩, ⟨h12⟩, ⟨h13⟩, ⟨h14⟩, ⟨h15⟩, ⟨h16⟩, ⟨h17⟩, ⟨h18⟩, ⟨h19⟩⟩
theorem zC20 {W : World} {g : Nat} {t : TypeId} {a0 a1 : Value} (h : Go.Proofs.YtkcbinohpdhbgaaW.PrintWords.Aside0 (W.heap[g]? = some (.cells #[a0, a1] t (0, 0)))) : W.cell? ⟨g, 0, none⟩ = some a0 := (Go.Proofs.YtkcbinohpdhbgaaW.PrintWords.blk_cell h.out 0).trans rfl
theorem zC21 {W : World} {g : Nat} {t : TypeId} {a0 a1 : Value} (h : Go.Proofs.YtkcbinohpdhbgaaW.PrintWords.Aside0 (W.heap[g]? = some (.cells #[a0, a1] t (0, 0)))) : W.cell? ⟨g, 1, none⟩ = some a1 := (Go.Proofs.YtkcbinohpdhbgaaW.PrintWords.blk_cell h.out 1).trans rfl
theorem zzY {p : Prop} (h : p := by first | (rw [hy_]; with_reducible exact H) | (have H2_ := (Option.bind_some _ _).symm.trans H; rw [hy_]; with_reducible exact H2_) | (have H2_ := (Option.bind_some _ _).symm.trans H; with_reducible exact H2_) | with_reducible exact H | (rw [hy_]; exact H) | exact H) : p := h
def zL : Nat → Nat → List Bool
 | 0, _ => []
 | n + 1, m => Nat.beq (m % 2) 1 :: zL n (m / 2)
def zM (n m : Nat) : Array Bool := ⟨zL n m⟩
theorem zP {P : Program} {ops : Array Oper} {Q : Exit → Act → World → Prop} {md : Region.Mode} {S : World → Prop} {ds : List Nat} {T : Bool × List (List Nat × List Nat)} {oi : Oper} {fuel : Nat} {l : Array Bool} {a : Act} {w : World} (i : Nat) (N : Tmp) (v : Value) (l' : Array Bool) (hi : ops[i]? = some oi) (hN : oi.dst = some N) (hT : rtab md ops = T) (hy : ∀ w, (execOp a.eval oi).run P w = .ok (.value v) w) (a' : Act) (ha : a.put (some N) v = a')
  (h : wpAnyLast P md ops Q S ds fuel l' a' w) (hw : Region.wanted oi (yielded ops a.tmps) = true := by rfl) (hc : anyT T l.toList l'.toList i = true := by kernel_rfl) (hQ : ∀ c a w, Q (.panic c) (a.put oi.dst v) w → Q (.panic c) a w := by exact fun _ _ _ h => h) : wpAnyLast P md ops Q S ds (fuel + 1) l a w := Go.Proofs.YtkcbinohpdhbgaaW.PrintLast.pure_ l' hi hN (any_of hT hc) hQ (Or.inl ⟨hw, hy⟩) ha h
theorem zU {P : Program} {ops : Array Oper} {Q : Exit → Act → World → Prop} {md : Region.Mode} {S : World → Prop} {ds : List Nat} {T : Bool × List (List Nat × List Nat)} {oi : Oper} {fuel : Nat} {l : Array Bool} {a : Act} {w : World} (i : Nat) (N : Tmp) (l' : Array Bool) (hi : ops[i]? = some oi) (hN : oi.dst = some N) (hT : rtab md ops = T) (a' : Act) (ha : a.put (some N) undef = a')
  (h : wpAnyLast P md ops Q S ds fuel l' a' w) (hw : Region.wanted oi (yielded ops a.tmps) = false := by rfl) (hc : anyT T l.toList l'.toList i = true := by kernel_rfl) (hQ : ∀ c a w, Q (.panic c) (a.put oi.dst undef) w → Q (.panic c) a w := by exact fun _ _ _ h => h) : wpAnyLast P md ops Q S ds (fuel + 1) l a w := Go.Proofs.YtkcbinohpdhbgaaW.PrintLast.pure_ l' hi hN (any_of hT hc) hQ (Or.inr ⟨hw, rfl⟩) ha h
theorem zm0 {p : Prop} (h : p := by repeat' first | (with_reducible apply ih0) | (with_reducible exact LeO.refl _) | (with_reducible exact LeO.none _) | (with_reducible refine LeO.ite ?_ ?_) | (with_reducible refine LeO.bind ?_ (fun _ => ?_)) | apply ih0 | exact LeO.none _ | refine LeO.ite ?_ ?_ | refine LeO.bind ?_ (fun _ => ?_)) : p := h
theorem zm1 {p : Prop} (h : p := by repeat' first | (with_reducible apply ih0) | (with_reducible apply ih1) | (with_reducible exact LeO.refl _) | (with_reducible exact LeO.none _) | (with_reducible refine LeO.ite ?_ ?_) | (with_reducible refine LeO.bind ?_ (fun _ => ?_)) | apply ih0 | apply ih1 | exact LeO.none _ | refine LeO.ite ?_ ?_ | refine LeO.bind ?_ (fun _ => ?_)) : p := h
theorem zm2 {p : Prop} (h : p := by repeat' first | (with_reducible apply ih0) | (with_reducible apply ih1) | (with_reducible apply ih2) | (with_reducible apply ih3) | (with_reducible apply ih4) | (with_reducible apply spec_AddEdge.mono) | (with_reducible apply spec_Multiplicity.mono) | (with_reducible exact LeO.refl _) | (with_reducible exact LeO.none _) | (with_reducible refine LeO.ite ?_ ?_) | (with_reducible refine LeO.bind ?_ (fun _ => ?_)) | apply ih0 | apply ih1 | apply ih2 | apply ih3 | apply ih4 | apply spec_AddEdge.mono | apply spec_Multiplicity.mono | exact LeO.none _ | refine LeO.ite ?_ ?_ | refine LeO.bind ?_ (fun _ => ?_)) : p := h
theorem zm3 {p : Prop} (h : p := by repeat' first | (with_reducible apply ih0) | (with_reducible apply ih1) | (with_reducible apply ih2) | (with_reducible apply ih3) | (with_reducible apply impl_MatrixOk.mono) | (with_reducible apply impl_bitsOf.mono) | (with_reducible apply impl_determinant.mono) | (with_reducible apply impl_divisor.mono) | (with_reducible exact LeO.refl _) | (with_reducible exact LeO.none _) | (with_reducible refine LeO.ite ?_ ?_) | (with_reducible refine LeO.bind ?_ (fun _ => ?_)) | apply ih0 | apply ih1 | apply ih2 | apply ih3 | apply impl_MatrixOk.mono | apply impl_bitsOf.mono | apply impl_determinant.mono | apply impl_divisor.mono | exact LeO.none _ | refine LeO.ite ?_ ?_ | refine LeO.bind ?_ (fun _ => ?_)) : p := h
theorem zm4 {p : Prop} (h : p := by repeat' first | (with_reducible apply ih0) | (with_reducible apply ih1) | (with_reducible apply ih2) | (with_reducible apply ih3) | (with_reducible apply impl_Multiplicity.mono) | (with_reducible apply slices_Contains_int_int.mono) | (with_reducible exact LeO.refl _) | (with_reducible exact LeO.none _) | (with_reducible refine LeO.ite ?_ ?_) | (with_reducible refine LeO.bind ?_ (fun _ => ?_)) | apply ih0 | apply ih1 | apply ih2 | apply ih3 | apply impl_Multiplicity.mono | apply slices_Contains_int_int.mono | exact LeO.none _ | refine LeO.ite ?_ ?_ | refine LeO.bind ?_ (fun _ => ?_)) : p := h
theorem zm5 {p : Prop} (h : p := by repeat' first | (with_reducible apply ih0) | (with_reducible apply ih1) | (with_reducible apply ih2) | (with_reducible apply impl_Valence.mono) | (with_reducible apply impl_burn.mono) | (with_reducible apply impl_fire.mono) | (with_reducible apply impl_inDebt.mono) | (with_reducible apply slices_Contains_int_int.mono) | (with_reducible exact LeO.refl _) | (with_reducible exact LeO.none _) | (with_reducible refine LeO.ite ?_ ?_) | (with_reducible refine LeO.bind ?_ (fun _ => ?_)) | apply ih0 | apply ih1 | apply ih2 | apply impl_Valence.mono | apply impl_burn.mono | apply impl_fire.mono | apply impl_inDebt.mono | apply slices_Contains_int_int.mono | exact LeO.none _ | refine LeO.ite ?_ ?_ | refine LeO.bind ?_ (fun _ => ?_)) : p := h
theorem zm6 {p : Prop} (h : p := by repeat' first | (with_reducible apply ih0) | (with_reducible apply impl_DegreeOf.mono) | (with_reducible apply impl_DifferenceClass.mono) | (with_reducible apply impl_GroupFactors.mono) | (with_reducible apply impl_GroupOrder.mono) | (with_reducible apply impl_InverseClass.mono) | (with_reducible apply impl_OrderOf.mono) | (with_reducible apply impl_TimesClass.mono) | (with_reducible apply laws_same.mono) | (with_reducible apply spec_MakeGraph.mono) | (with_reducible apply spec_MakeNum.mono) | (with_reducible apply spec_MakeZero.mono) | (with_reducible exact LeO.refl _) | (with_reducible exact LeO.none _) | (with_reducible refine LeO.ite ?_ ?_) | (with_reducible refine LeO.bind ?_ (fun _ => ?_)) | apply ih0 | apply impl_DegreeOf.mono | apply impl_DifferenceClass.mono | apply impl_GroupFactors.mono | apply impl_GroupOrder.mono | apply impl_InverseClass.mono | apply impl_OrderOf.mono | apply impl_TimesClass.mono | apply laws_same.mono | apply spec_MakeGraph.mono | apply spec_MakeNum.mono | apply spec_MakeZero.mono | exact LeO.none _ | refine LeO.ite ?_ ?_ | refine LeO.bind ?_ (fun _ => ?_)) : p := h
theorem zm7 {p : Prop} (h : p := by repeat' first | (with_reducible apply ih0) | (with_reducible apply ih1) | (with_reducible apply ih2) | (with_reducible apply spec_l02Has.mono) | (with_reducible exact LeO.refl _) | (with_reducible exact LeO.none _) | (with_reducible refine LeO.ite ?_ ?_) | (with_reducible refine LeO.bind ?_ (fun _ => ?_)) | apply ih0 | apply ih1 | apply ih2 | apply spec_l02Has.mono | exact LeO.none _ | refine LeO.ite ?_ ?_ | refine LeO.bind ?_ (fun _ => ?_)) : p := h
theorem zm8 {p : Prop} (h : p := by repeat' first | (with_reducible apply ih0) | (with_reducible apply ih1) | (with_reducible apply impl_Multiplicity.mono) | (with_reducible apply impl_Valence.mono) | (with_reducible exact LeO.refl _) | (with_reducible exact LeO.none _) | (with_reducible refine LeO.ite ?_ ?_) | (with_reducible refine LeO.bind ?_ (fun _ => ?_)) | apply ih0 | apply ih1 | apply impl_Multiplicity.mono | apply impl_Valence.mono | exact LeO.none _ | refine LeO.ite ?_ ?_ | refine LeO.bind ?_ (fun _ => ?_)) : p := h
theorem zm9 {p : Prop} (h : p := by repeat' first | (with_reducible apply ih0) | (with_reducible apply ih1) | (with_reducible apply spec_GraphOk.mono) | (with_reducible exact LeO.refl _) | (with_reducible exact LeO.none _) | (with_reducible refine LeO.ite ?_ ?_) | (with_reducible refine LeO.bind ?_ (fun _ => ?_)) | apply ih0 | apply ih1 | apply spec_GraphOk.mono | exact LeO.none _ | refine LeO.ite ?_ ?_ | refine LeO.bind ?_ (fun _ => ?_)) : p := h
theorem zm10 {p : Prop} (h : p := by repeat' first | (with_reducible apply ih0) | (with_reducible apply impl_NegateDivisor.mono) | (with_reducible apply impl_ofDegreeZero.mono) | (with_reducible apply impl_plus.mono) | (with_reducible apply impl_reduce.mono) | (with_reducible exact LeO.refl _) | (with_reducible exact LeO.none _) | (with_reducible refine LeO.ite ?_ ?_) | (with_reducible refine LeO.bind ?_ (fun _ => ?_)) | apply ih0 | apply impl_NegateDivisor.mono | apply impl_ofDegreeZero.mono | apply impl_plus.mono | apply impl_reduce.mono | exact LeO.none _ | refine LeO.ite ?_ ?_ | refine LeO.bind ?_ (fun _ => ?_)) : p := h
theorem zm11 {p : Prop} (h : p := by repeat' first | (with_reducible apply ih0) | (with_reducible apply impl_allWithin.mono) | (with_reducible apply impl_ofDegreeZero.mono) | (with_reducible apply impl_plus.mono) | (with_reducible apply impl_reduce.mono) | (with_reducible exact LeO.refl _) | (with_reducible exact LeO.none _) | (with_reducible refine LeO.ite ?_ ?_) | (with_reducible refine LeO.bind ?_ (fun _ => ?_)) | apply ih0 | apply impl_allWithin.mono | apply impl_ofDegreeZero.mono | apply impl_plus.mono | apply impl_reduce.mono | exact LeO.none _ | refine LeO.ite ?_ ?_ | refine LeO.bind ?_ (fun _ => ?_)) : p := h
theorem zm12 {p : Prop} (h : p := by repeat' first | (with_reducible apply ih0) | (with_reducible apply impl_InvariantFactors.mono) | (with_reducible apply impl_ReducedLaplacian.mono) | (with_reducible exact LeO.refl _) | (with_reducible exact LeO.none _) | (with_reducible refine LeO.ite ?_ ?_) | (with_reducible refine LeO.bind ?_ (fun _ => ?_)) | apply ih0 | apply impl_InvariantFactors.mono | apply impl_ReducedLaplacian.mono | exact LeO.none _ | refine LeO.ite ?_ ?_ | refine LeO.bind ?_ (fun _ => ?_)) : p := h
theorem zm13 {p : Prop} (h : p := by repeat' first | (with_reducible apply ih0) | (with_reducible apply spec_EdgesOk.mono) | (with_reducible apply spec_l02Reach.mono) | (with_reducible exact LeO.refl _) | (with_reducible exact LeO.none _) | (with_reducible refine LeO.ite ?_ ?_) | (with_reducible refine LeO.bind ?_ (fun _ => ?_)) | apply ih0 | apply spec_EdgesOk.mono | apply spec_l02Reach.mono | exact LeO.none _ | refine LeO.ite ?_ ?_ | refine LeO.bind ?_ (fun _ => ?_)) : p := h
theorem zm14 {p : Prop} (h : p := by repeat' first | (with_reducible apply ih0) | (with_reducible apply impl_plus.mono) | (with_reducible apply impl_reduce.mono) | (with_reducible exact LeO.refl _) | (with_reducible exact LeO.none _) | (with_reducible refine LeO.ite ?_ ?_) | (with_reducible refine LeO.bind ?_ (fun _ => ?_)) | apply ih0 | apply impl_plus.mono | apply impl_reduce.mono | exact LeO.none _ | refine LeO.ite ?_ ?_ | refine LeO.bind ?_ (fun _ => ?_)) : p := h
theorem zm15 {p : Prop} (h : p := by repeat' first | (with_reducible apply ih0) | (with_reducible apply impl_allWithin.mono) | (with_reducible exact LeO.refl _) | (with_reducible exact LeO.none _) | (with_reducible refine LeO.ite ?_ ?_) | (with_reducible refine LeO.bind ?_ (fun _ => ?_)) | apply ih0 | apply impl_allWithin.mono | exact LeO.none _ | refine LeO.ite ?_ ?_ | refine LeO.bind ?_ (fun _ => ?_)) : p := h
theorem zm16 {p : Prop} (h : p := by repeat' first | (with_reducible apply ih0) | (with_reducible apply spec_l01New.mono) | (with_reducible exact LeO.refl _) | (with_reducible exact LeO.none _) | (with_reducible refine LeO.ite ?_ ?_) | (with_reducible refine LeO.bind ?_ (fun _ => ?_)) | apply ih0 | apply spec_l01New.mono | exact LeO.none _ | refine LeO.ite ?_ ?_ | refine LeO.bind ?_ (fun _ => ?_)) : p := h
theorem zz0 {p : Prop} (h : p := by repeat (first | (with_reducible first | exact HB.out | apply below_alloc | apply pw_below_drewN | apply below_drew1 | refine below_set ?_ GE101.out) | exact HB.out)) : p := h
theorem zz1 {p : Prop} (h : p := by (with_reducible repeat (first | refine blk_drewN ?_ _ | refine blk_drew ?_ | refine blk_alloc ?_ _)); exact aA.out) : p := h
theorem zz2 {p : Prop} (h : p := by repeat (first | (with_reducible first | exact HB.out | apply below_alloc | apply pw_below_drewN | apply below_drew1) | exact HB.out)) : p := h
theorem zz3 {p : Prop} (h : p := by (try simp only [List.map_toArray, List.map_cons, List.map_nil]); first | done | rfl | (simp only [List.length_drop, List.length_take]; rfl)) : p := h
theorem zz4 {p : Prop} (h : p := by first | (with_reducible assumption) | assumption) : p := h
theorem zz5 {p : Prop} (h : p := by repeat (first | exact (Kd.C_below cB.out HB.out) | (with_reducible refine Kd.C_alloc ?_ _) | (with_reducible refine Kd.C_drewN ?_ _) | (with_reducible refine Kd.C_drew ?_))) : p := h
theorem zz6 {p : Prop} (h : p := by first | rfl | (simp; done) | (simp [*]; done)) : p := h
theorem zz7 {p : Prop} (h : p := by (with_reducible repeat (first | refine blk_drewN ?_ _ | refine blk_drew ?_ | refine blk_alloc ?_ _)); exact aI.out) : p := h
theorem zz8 {p : Prop} (h : p := by repeat (first | (with_reducible first | exact HB.out | apply below_alloc | apply pw_below_drewN | apply below_drew1 | refine below_set ?_ GE105.out) | exact HB.out)) : p := h
theorem zz9 {p : Prop} (h : p := by repeat (first | (with_reducible first | exact HK.out | apply KeepBut.set_ | apply keep_drewN | apply keep_drew | apply keep_alloc | refine keep_far ?_ GW101.out _ | refine keep_far ?_ GW102.out _ | refine keep_far ?_ GW113.out _) | exact HK.out)) : p := h
theorem zz10 {p : Prop} (h : p := by first | rfl | (simp [errW_none, errW_some] <;> rfl) | (simp [*, errW_none, errW_some] <;> rfl)) : p := h
theorem zz11 {p : Prop} (h : p := by first | (refine spec_l02Draw.same_ HI0.out ?_; (repeat (first | (with_reducible first | exact HI0.out | apply IsS92.alloc | apply IsS92.drewN | apply IsS92.drew | apply IsS92.set_1 | apply IsS92.set_2 | refine IsS92.far ?_ bF.out _ | refine IsS92.far ?_ bR.out _ | refine IsS92.far ?_ cG.out _) | exact HI0.out)); first | done | exact HI0.out) | (repeat (first | (with_reducible first | exact HI0.out | apply IsS92.alloc | apply IsS92.drewN | apply IsS92.drew | apply IsS92.set_1 | apply IsS92.set_2 | refine IsS92.far ?_ bF.out _ | refine IsS92.far ?_ bR.out _ | refine IsS92.far ?_ cG.out _) | exact HI0.out))) : p := h
theorem zz12 {p : Prop} (h : p := by repeat (first | (with_reducible first | exact HB.out | apply below_alloc | apply pw_below_drewN | apply below_drew1 | refine below_set ?_ GE101.out | refine below_set ?_ GE106.out) | exact HB.out)) : p := h
theorem zz13 {p : Prop} (h : p := by (with_reducible repeat (first | refine blk_drewN ?_ _ | refine blk_drew ?_ | refine blk_alloc ?_ _)); exact a8.out) : p := h
theorem zz14 {p : Prop} (h : p := by (with_reducible repeat (first | refine blk_drewN ?_ _ | refine blk_drew ?_ | refine blk_alloc ?_ _)); refine blk_put (cs := #[.int .i64 ((rd_T76 aC a9).f0), .int .i64 0]) ?_ 1 _ rfl; (with_reducible repeat (first | refine blk_drewN ?_ _ | refine blk_drew ?_ | refine blk_alloc ?_ _)); refine blk_put (cs := #[.int .i64 0, .int .i64 0]) ?_ 0 _ rfl; (with_reducible repeat (first | refine blk_drewN ?_ _ | refine blk_drew ?_ | refine blk_alloc ?_ _)); exact cQ.out) : p := h
theorem zz15 {p : Prop} (h : p := by repeat (first | (with_reducible first | exact HK.out | apply KeepBut.set_ | apply keep_drewN | apply keep_drew | apply keep_alloc | refine keep_far ?_ GW101.out _ | refine keep_far ?_ GW102.out _ | refine keep_far ?_ GW113.out _ | refine keep_far ?_ GW132.out _) | exact HK.out)) : p := h
theorem zz16 {p : Prop} (h : p := by repeat (first | (with_reducible first | exact HB.out | apply below_alloc | apply pw_below_drewN | apply below_drew1 | refine below_set ?_ GE101.out | refine below_set ?_ GE102.out | refine below_set ?_ GE106.out | refine below_set ?_ GE107.out) | exact HB.out)) : p := h
theorem zz17 {p : Prop} (h : p := by (with_reducible repeat (first | apply Kd.R_alloc | apply Kd.R_drewN | apply Kd.R_drew)); exact dM.out) : p := h
theorem zz18 {p : Prop} (h : p := by rw [hg]; exact (below_size zz2)) : p := h
theorem zz19 {p : Prop} (h : p := by repeat (first | (with_reducible first | exact HB.out | apply below_alloc | apply pw_below_drewN | apply below_drew1 | refine below_set ?_ GE101.out | refine below_set ?_ GE102.out | refine below_set ?_ GE106.out | refine below_set ?_ GE107.out | refine below_set ?_ GE109.out) | exact HB.out)) : p := h
theorem zz20 {p : Prop} (h : p := by (with_reducible repeat (first | refine blk_drewN ?_ _ | refine blk_drew ?_ | refine blk_alloc ?_ _)); exact aJ.out) : p := h
theorem zz21 {p : Prop} (h : p := by first | (go_simp; done) | (go_simp; rfl)) : p := h
theorem zz22 {p : Prop} (h : p := by (with_reducible repeat (first | refine blk_drewN ?_ _ | refine blk_drew ?_ | refine blk_alloc ?_ _)); refine blk_far ?_ fA.out _; (with_reducible repeat (first | refine blk_drewN ?_ _ | refine blk_drew ?_ | refine blk_alloc ?_ _)); refine blk_far ?_ fA.out _; (with_reducible repeat (first | refine blk_drewN ?_ _ | refine blk_drew ?_ | refine blk_alloc ?_ _)); exact aJ.out) : p := h
theorem zz23 {p : Prop} (h : p := by (with_reducible repeat (first | apply Kd.R_alloc | apply Kd.R_drewN | apply Kd.R_drew)); exact bX.out) : p := h
theorem zz24 {p : Prop} (h : p := by (with_reducible repeat (first | apply Kd.R_alloc | apply Kd.R_drewN | apply Kd.R_drew)); exact bW.out) : p := h
theorem zz25 {p : Prop} (h : p := by repeat (first | exact (Kd.C_below HR1.out HB.out) | (with_reducible refine Kd.C_alloc ?_ _) | (with_reducible refine Kd.C_drewN ?_ _) | (with_reducible refine Kd.C_drew ?_))) : p := h
theorem zz26 {p : Prop} (h : p := by repeat (first | (with_reducible first | exact HB.out | apply below_alloc | apply pw_below_drewN | apply below_drew1 | refine below_set ?_ GE101.out | refine below_set ?_ GE104.out) | exact HB.out)) : p := h
theorem zz27 {p : Prop} (h : p := by (with_reducible repeat (first | apply Kd.R_alloc | apply Kd.R_drewN | apply Kd.R_drew)); exact aM.out) : p := h
theorem zz28 {p : Prop} (h : p := by (with_reducible repeat (first | apply Kd.R_alloc | apply Kd.R_drewN | apply Kd.R_drew)); exact b7.out) : p := h
theorem zz29 {p : Prop} (h : p := by (with_reducible repeat (first | apply Kd.R_alloc | apply Kd.R_drewN | apply Kd.R_drew)); exact aU.out) : p := h
theorem zz30 {p : Prop} (h : p := by (with_reducible repeat (first | refine blk_drewN ?_ _ | refine blk_drew ?_ | refine blk_alloc ?_ _)); exact aQ.out) : p := h
theorem zz31 {p : Prop} (h : p := by repeat (first | exact (Kd.R_reads' aV.out).2.2 | (with_reducible refine Kd.C_alloc ?_ _) | (with_reducible refine Kd.C_drewN ?_ _) | (with_reducible refine Kd.C_drew ?_))) : p := h
theorem zz32 {p : Prop} (h : p := by repeat (first | (with_reducible first | exact HB.out | apply below_alloc | apply pw_below_drewN | apply below_drew1 | refine below_set ?_ (IsS92.ge HI0.out) | refine below_set ?_ GE101.out | refine below_set ?_ GE102.out | refine below_set ?_ GE113.out | refine below_set ?_ GE132.out) | exact HB.out)) : p := h
theorem zz33 {p : Prop} (h : p := by (with_reducible repeat (first | apply Kd.R_alloc | apply Kd.R_drewN | apply Kd.R_drew)); exact bG.out) : p := h
theorem zz34 {p : Prop} (h : p := by repeat (first | (with_reducible first | exact HB.out | apply below_alloc | apply pw_below_drewN | apply below_drew1 | refine below_set ?_ (IsS92.ge HI0.out) | refine below_set ?_ GE101.out | refine below_set ?_ GE102.out | refine below_set ?_ GE113.out) | exact HB.out)) : p := h
theorem zz35 {p : Prop} (h : p := by (with_reducible repeat (first | apply Kd.R_alloc | apply Kd.R_drewN | apply Kd.R_drew)); exact d3.out) : p := h
theorem zz36 {p : Prop} (h : p := by (with_reducible repeat (first | refine blk_drewN ?_ _ | refine blk_drew ?_ | refine blk_alloc ?_ _)); refine blk_far ?_ cK.out _; (with_reducible repeat (first | refine blk_drewN ?_ _ | refine blk_drew ?_ | refine blk_alloc ?_ _)); refine blk_far ?_ cK.out _; (with_reducible repeat (first | refine blk_drewN ?_ _ | refine blk_drew ?_ | refine blk_alloc ?_ _)); exact aA.out) : p := h
theorem zz37 {p : Prop} (h : p := by (with_reducible repeat (first | refine blk_drewN ?_ _ | refine blk_drew ?_ | refine blk_alloc ?_ _)); refine blk_far ?_ dG.out _; (with_reducible repeat (first | refine blk_drewN ?_ _ | refine blk_drew ?_ | refine blk_alloc ?_ _)); refine blk_far ?_ dG.out _; (with_reducible repeat (first | refine blk_drewN ?_ _ | refine blk_drew ?_ | refine blk_alloc ?_ _)); exact aA.out) : p := h
theorem zz38 {p : Prop} (h : p := by (with_reducible repeat (first | apply Kd.R_alloc | apply Kd.R_drewN | apply Kd.R_drew)); exact aV.out) : p := h
theorem zz39 {p : Prop} (h : p := by repeat (first | (with_reducible first | exact HK.out | apply KeepBut.set_ | apply keep_drewN | apply keep_drew | apply keep_alloc | refine keep_far ?_ GW101.out _) | exact HK.out)) : p := h
theorem zz40 {p : Prop} (h : p := by first | (refine spec_l02Draw.same_ HI0.out ?_; (repeat (first | (with_reducible first | exact HI0.out | apply IsS92.alloc | apply IsS92.drewN | apply IsS92.drew | apply IsS92.set_1 | apply IsS92.set_2 | refine IsS92.far ?_ bF.out _ | refine IsS92.far ?_ bR.out _ | refine IsS92.far ?_ cG.out _ | refine IsS92.far ?_ dN.out _) | exact HI0.out)); first | done | exact HI0.out) | (repeat (first | (with_reducible first | exact HI0.out | apply IsS92.alloc | apply IsS92.drewN | apply IsS92.drew | apply IsS92.set_1 | apply IsS92.set_2 | refine IsS92.far ?_ bF.out _ | refine IsS92.far ?_ bR.out _ | refine IsS92.far ?_ cG.out _ | refine IsS92.far ?_ dN.out _) | exact HI0.out))) : p := h
theorem zz41 {p : Prop} (h : p := by repeat (first | (with_reducible first | exact HK.out | apply KeepBut.set_ | apply keep_drewN | apply keep_drew | apply keep_alloc) | exact HK.out)) : p := h
theorem zz42 {p : Prop} (h : p := by (with_reducible repeat (first | refine blk_drewN ?_ _ | refine blk_drew ?_ | refine blk_alloc ?_ _)); refine blk_far ?_ eJ.out _; (with_reducible repeat (first | refine blk_drewN ?_ _ | refine blk_drew ?_ | refine blk_alloc ?_ _)); refine blk_far ?_ eJ.out _; (with_reducible repeat (first | refine blk_drewN ?_ _ | refine blk_drew ?_ | refine blk_alloc ?_ _)); exact aA.out) : p := h
theorem zz43 {p : Prop} (h : p := by (with_reducible repeat (first | refine blk_drewN ?_ _ | refine blk_drew ?_ | refine blk_alloc ?_ _)); refine blk_far ?_ eI.out _; (with_reducible repeat (first | refine blk_drewN ?_ _ | refine blk_drew ?_ | refine blk_alloc ?_ _)); refine blk_far ?_ eI.out _; (with_reducible repeat (first | refine blk_drewN ?_ _ | refine blk_drew ?_ | refine blk_alloc ?_ _)); exact aI.out) : p := h
theorem zz44 {p : Prop} (h : p := by first | exact Kd.R_nil _ _ _ _ _ | exact Kd.N_nil _ _ _ _ _ | exact Kd.V_nil _ _ _ _ _ | exact Kd.Q_nil _ _ _ _ _ | exact Kd.S_nil _ _ _ _ _) : p := h
theorem zz45 {p : Prop} (h : p := by repeat (first | (with_reducible first | exact HI0.out | apply IsS92.alloc | apply IsS92.drewN | apply IsS92.drew | apply IsS92.set_1 | apply IsS92.set_2 | refine IsS92.far ?_ bF.out _ | refine IsS92.far ?_ bR.out _ | refine IsS92.far ?_ cG.out _) | exact HI0.out)) : p := h
theorem zz46 {p : Prop} (h : p := by (with_reducible repeat (first | refine blk_drewN ?_ _ | refine blk_drew ?_ | refine blk_alloc ?_ _)); refine blk_put (cs := #[.int .i64 ((rd_T76 aC aZ).f0), .int .i64 0]) ?_ 1 _ rfl; (with_reducible repeat (first | refine blk_drewN ?_ _ | refine blk_drew ?_ | refine blk_alloc ?_ _)); refine blk_put (cs := #[.int .i64 0, .int .i64 0]) ?_ 0 _ rfl; (with_reducible repeat (first | refine blk_drewN ?_ _ | refine blk_drew ?_ | refine blk_alloc ?_ _)); exact bM.out) : p := h
theorem zz47 {p : Prop} (h : p := by rw [hg]; exact (below_size zz0)) : p := h
theorem zz48 {p : Prop} (h : p := by (with_reducible repeat (first | apply Kd.R_alloc | apply Kd.R_drewN | apply Kd.R_drew)); exact d6.out) : p := h
theorem zz49 {p : Prop} (h : p := by (with_reducible repeat (first | apply Kd.R_alloc | apply Kd.R_drewN | apply Kd.R_drew)); exact eG.out) : p := h
theorem zz50 {p : Prop} (h : p := by (with_reducible repeat (first | refine blk_drewN ?_ _ | refine blk_drew ?_ | refine blk_alloc ?_ _)); exact bC.out) : p := h
theorem zz51 {p : Prop} (h : p := by (with_reducible repeat (first | apply Kd.R_alloc | apply Kd.R_drewN | apply Kd.R_drew)); exact cO.out) : p := h
theorem zz52 {p : Prop} (h : p := by repeat (first | (with_reducible first | exact HI0.out | apply IsS92.alloc | apply IsS92.drewN | apply IsS92.drew | apply IsS92.set_1 | apply IsS92.set_2 | refine IsS92.far ?_ bF.out _ | refine IsS92.far ?_ bR.out _ | refine IsS92.far ?_ cG.out _ | refine IsS92.far ?_ dN.out _) | exact HI0.out)) : p := h
theorem zz53 {p : Prop} (h : p := by (with_reducible repeat (first | refine blk_drewN ?_ _ | refine blk_drew ?_ | refine blk_alloc ?_ _)); refine blk_far ?_ e9.out _; (with_reducible repeat (first | refine blk_drewN ?_ _ | refine blk_drew ?_ | refine blk_alloc ?_ _)); refine blk_far ?_ e9.out _; (with_reducible repeat (first | refine blk_drewN ?_ _ | refine blk_drew ?_ | refine blk_alloc ?_ _)); exact bC.out) : p := h
theorem zz54 {p : Prop} (h : p := by (with_reducible repeat (first | apply Kd.R_alloc | apply Kd.R_drewN | apply Kd.R_drew)); exact d7.out) : p := h
theorem zz55 {p : Prop} (h : p := by repeat (first | (with_reducible first | exact HB.out | apply below_alloc | apply pw_below_drewN | apply below_drew1 | refine below_set ?_ GE101.out | refine below_set ?_ GE103.out) | exact HB.out)) : p := h
theorem zz56 {p : Prop} (h : p := by (with_reducible repeat (first | apply Kd.R_alloc | apply Kd.R_drewN | apply Kd.R_drew)); exact Kd.R_mono (Kd.R_far (p := ⟨bJ, 1, none⟩) (Kd.R_far (p := ⟨bJ, 0, none⟩) (Kd.R_mono bB.out (fun k_ hk => (⟨hk, hk.2⟩ : _ ∧ k_ ≠ bJ))) (fun _ hk => hk.2) (.int .i64 ((rd_T76 aC a9).f0))) (fun _ hk => hk.2) (.int .i64 ((rd_T76 aC a9).f1))) (fun _ hk => ⟨hk.1.1, hk.1.2⟩)) : p := h
theorem zz57 {p : Prop} (h : p := by rw [hg]; exact Nat.ne_of_lt (blk_lt (g := aE) (o := .cells #[.int .i64 aD, .slice (some bZ) aC.length aG] 30 (0, 0)) zz1)) : p := h
theorem zz58 {p : Prop} (h : p := by rw [hg]; exact Nat.ne_of_gt (blk_lt (g := aE) (o := .cells #[.int .i64 aD, .slice (some bZ) aC.length aG] 30 (0, 0)) zz1)) : p := h
theorem zz59 {p : Prop} (h : p := by repeat (first | (with_reducible first | exact HK.out | apply KeepBut.set_ | apply keep_drewN | apply keep_drew | apply keep_alloc | refine keep_far ?_ GW101.out _ | refine keep_far ?_ GW102.out _) | exact HK.out)) : p := h
theorem zz60 {p : Prop} (h : p := by repeat (first | exact (Kd.R_reads' bW.out).2.2 | (with_reducible refine Kd.C_alloc ?_ _) | (with_reducible refine Kd.C_drewN ?_ _) | (with_reducible refine Kd.C_drew ?_))) : p := h
theorem zz61 {p : Prop} (h : p := by repeat (first | (with_reducible first | exact HB.out | apply below_alloc | apply pw_below_drewN | apply below_drew1 | refine below_set ?_ GE101.out | refine below_set ?_ GE102.out) | exact HB.out)) : p := h
theorem zz62 {p : Prop} (h : p := by (with_reducible repeat (first | refine blk_drewN ?_ _ | refine blk_drew ?_ | refine blk_alloc ?_ _)); exact d4.out) : p := h
theorem zz63 {p : Prop} (h : p := by repeat (first | exact (Kd.C_below HR0.out HB.out) | (with_reducible refine Kd.C_alloc ?_ _) | (with_reducible refine Kd.C_drewN ?_ _) | (with_reducible refine Kd.C_drew ?_))) : p := h
theorem zz64 {p : Prop} (h : p := by repeat (first | exact (Kd.R_reads' dM.out).2.2 | (with_reducible refine Kd.C_alloc ?_ _) | (with_reducible refine Kd.C_drewN ?_ _) | (with_reducible refine Kd.C_drew ?_))) : p := h
theorem zz65 {p : Prop} (h : p := by (with_reducible repeat (first | apply Kd.R_alloc | apply Kd.R_drewN | apply Kd.R_drew)); exact hJ.out) : p := h
theorem zz66 {p : Prop} (h : p := by rw [hg]; exact Nat.ne_of_lt (IsS92.lt (show IsS92 w0 _ g s0_0 hP nV from by repeat (first | (with_reducible first | exact HI0.out | apply IsS92.alloc | apply IsS92.drewN | apply IsS92.drew | apply IsS92.set_1 | apply IsS92.set_2 | refine IsS92.far ?_ bF.out _ | refine IsS92.far ?_ bR.out _ | refine IsS92.far ?_ cG.out _) | exact HI0.out)))) : p := h
theorem zz67 {p : Prop} (h : p := by rw [hg]; exact Nat.ne_of_gt (IsS92.lt (show IsS92 w0 _ g s0_0 hP nV from by repeat (first | (with_reducible first | exact HI0.out | apply IsS92.alloc | apply IsS92.drewN | apply IsS92.drew | apply IsS92.set_1 | apply IsS92.set_2 | refine IsS92.far ?_ bF.out _ | refine IsS92.far ?_ bR.out _ | refine IsS92.far ?_ cG.out _) | exact HI0.out)))) : p := h
theorem zz68 {p : Prop} (h : p := by rw [hg]; exact Nat.ne_of_lt (blk_lt (g := aE) (o := .cells #[.int .i64 aD, .slice (some eS) aC.length aG] 30 (0, 0)) zz1)) : p := h
theorem zz69 {p : Prop} (h : p := by rw [hg]; exact Nat.ne_of_gt (blk_lt (g := aE) (o := .cells #[.int .i64 aD, .slice (some eS) aC.length aG] 30 (0, 0)) zz1)) : p := h
theorem zz70 {p : Prop} (h : p := by repeat (first | (with_reducible first | exact HK.out | apply Kept.alloc | apply Kept.drewN | apply Kept.drew | refine Kept.setCell ?_ (.inr GW101.out) _ | refine Kept.setCell ?_ (.inr GW103.out) _) | exact HK.out)) : p := h
theorem zz71 {p : Prop} (h : p := by (with_reducible repeat (first | refine blk_drewN ?_ _ | refine blk_drew ?_ | refine blk_alloc ?_ _)); refine blk_far ?_ fC.out _; (with_reducible repeat (first | refine blk_drewN ?_ _ | refine blk_drew ?_ | refine blk_alloc ?_ _)); exact aA.out) : p := h
theorem zz72 {p : Prop} (h : p := by (with_reducible repeat (first | refine blk_drewN ?_ _ | refine blk_drew ?_ | refine blk_alloc ?_ _)); refine blk_far ?_ eP.out _; (with_reducible repeat (first | refine blk_drewN ?_ _ | refine blk_drew ?_ | refine blk_alloc ?_ _)); exact aI.out) : p := h
theorem zz73 {p : Prop} (h : p := by (with_reducible repeat (first | refine blk_drewN ?_ _ | refine blk_drew ?_ | refine blk_alloc ?_ _)); refine blk_far ?_ fB.out _; (with_reducible repeat (first | refine blk_drewN ?_ _ | refine blk_drew ?_ | refine blk_alloc ?_ _)); exact aJ.out) : p := h
theorem zz74 {p : Prop} (h : p := by repeat (first | exact HR0.out | (with_reducible refine Kd.C_alloc ?_ _) | (with_reducible refine Kd.C_drewN ?_ _) | (with_reducible refine Kd.C_drew ?_))) : p := h
theorem zz75 {p : Prop} (h : p := by repeat (first | exact (Kd.R_reads' cN.out).2.2 | (with_reducible refine Kd.C_alloc ?_ _) | (with_reducible refine Kd.C_drewN ?_ _) | (with_reducible refine Kd.C_drew ?_))) : p := h
theorem zz76 {p : Prop} (h : p := by (with_reducible repeat (first | apply Kd.R_alloc | apply Kd.R_drewN | apply Kd.R_drew)); exact eA.out) : p := h
theorem zz77 {p : Prop} (h : p := by (with_reducible repeat (first | apply Kd.R_alloc | apply Kd.R_drewN | apply Kd.R_drew)); exact gX.out) : p := h
theorem zz78 {p : Prop} (h : p := by (with_reducible repeat (first | apply Kd.R_alloc | apply Kd.R_drewN | apply Kd.R_drew)); exact fR.out) : p := h
theorem zz79 {p : Prop} (h : p := by (with_reducible repeat (first | refine blk_drewN ?_ _ | refine blk_drew ?_ | refine blk_alloc ?_ _)); refine blk_put (cs := #[.int .i64 cI, .int .i64 0]) ?_ 1 _ rfl; (with_reducible repeat (first | refine blk_drewN ?_ _ | refine blk_drew ?_ | refine blk_alloc ?_ _)); refine blk_put (cs := #[.int .i64 0, .int .i64 0]) ?_ 0 _ rfl; (with_reducible repeat (first | refine blk_drewN ?_ _ | refine blk_drew ?_ | refine blk_alloc ?_ _)); exact aJ.out) : p := h
theorem zz80 {p : Prop} (h : p := by rw [hg]; exact Nat.ne_of_lt (blk_lt (g := aE) (o := .cells #[.int .i64 0, .slice none 0 0] 30 (0, 0)) zz1)) : p := h
theorem zz81 {p : Prop} (h : p := by rw [hg]; exact Nat.ne_of_gt (blk_lt (g := aE) (o := .cells #[.int .i64 0, .slice none 0 0] 30 (0, 0)) zz1)) : p := h
theorem zz82 {p : Prop} (h : p := by repeat (first | (with_reducible first | exact HB.out | apply below_alloc | apply pw_below_drewN | apply below_drew1 | refine below_set ?_ (IsS92.ge HI0.out)) | exact HB.out)) : p := h
theorem zz83 {p : Prop} (h : p := by repeat (first | (with_reducible first | exact HI0.out | apply IsS92.alloc | apply IsS92.drewN | apply IsS92.drew | apply IsS92.set_1 | apply IsS92.set_2) | exact HI0.out)) : p := h
theorem zz84 {p : Prop} (h : p := by repeat (first | exact (Kd.R_reads' aU.out).2.2 | (with_reducible refine Kd.C_alloc ?_ _) | (with_reducible refine Kd.C_drewN ?_ _) | (with_reducible refine Kd.C_drew ?_))) : p := h
theorem zz85 {p : Prop} (h : p := by (with_reducible repeat (first | apply Kd.R_alloc | apply Kd.R_drewN | apply Kd.R_drew)); exact cN.out) : p := h
theorem zz86 {p : Prop} (h : p := by repeat (first | exact (Kd.R_reads' dE.out).2.2 | (with_reducible refine Kd.C_alloc ?_ _) | (with_reducible refine Kd.C_drewN ?_ _) | (with_reducible refine Kd.C_drew ?_))) : p := h
theorem zz87 {p : Prop} (h : p := by repeat (first | exact (Kd.R_reads' b7.out).2.2 | (with_reducible refine Kd.C_alloc ?_ _) | (with_reducible refine Kd.C_drewN ?_ _) | (with_reducible refine Kd.C_drew ?_))) : p := h
theorem zz88 {p : Prop} (h : p := by repeat (first | exact (Kd.R_reads' bG.out).2.2 | (with_reducible refine Kd.C_alloc ?_ _) | (with_reducible refine Kd.C_drewN ?_ _) | (with_reducible refine Kd.C_drew ?_))) : p := h
theorem zz89 {p : Prop} (h : p := by repeat (first | exact (Kd.R_reads' fR.out).2.2 | (with_reducible refine Kd.C_alloc ?_ _) | (with_reducible refine Kd.C_drewN ?_ _) | (with_reducible refine Kd.C_drew ?_))) : p := h
theorem zz90 {p : Prop} (h : p := by (with_reducible repeat (first | refine blk_drewN ?_ _ | refine blk_drew ?_ | refine blk_alloc ?_ _)); refine blk_far ?_ cW.out _; (with_reducible repeat (first | refine blk_drewN ?_ _ | refine blk_drew ?_ | refine blk_alloc ?_ _)); refine blk_far ?_ cW.out _; (with_reducible repeat (first | refine blk_drewN ?_ _ | refine blk_drew ?_ | refine blk_alloc ?_ _)); exact aA.out) : p := h
theorem zz91 {p : Prop} (h : p := by (with_reducible repeat (first | refine blk_drewN ?_ _ | refine blk_drew ?_ | refine blk_alloc ?_ _)); refine blk_far ?_ gR.out _; (with_reducible repeat (first | refine blk_drewN ?_ _ | refine blk_drew ?_ | refine blk_alloc ?_ _)); refine blk_far ?_ gR.out _; (with_reducible repeat (first | refine blk_drewN ?_ _ | refine blk_drew ?_ | refine blk_alloc ?_ _)); exact aI.out) : p := h
theorem zz92 {p : Prop} (h : p := by (with_reducible repeat (first | refine blk_drewN ?_ _ | refine blk_drew ?_ | refine blk_alloc ?_ _)); refine blk_far ?_ eQ.out _; (with_reducible repeat (first | refine blk_drewN ?_ _ | refine blk_drew ?_ | refine blk_alloc ?_ _)); refine blk_far ?_ eQ.out _; (with_reducible repeat (first | refine blk_drewN ?_ _ | refine blk_drew ?_ | refine blk_alloc ?_ _)); exact aA.out) : p := h
theorem zz93 {p : Prop} (h : p := by (with_reducible repeat (first | refine blk_drewN ?_ _ | refine blk_drew ?_ | refine blk_alloc ?_ _)); refine blk_far ?_ fJ.out _; (with_reducible repeat (first | refine blk_drewN ?_ _ | refine blk_drew ?_ | refine blk_alloc ?_ _)); exact cQ.out) : p := h
theorem zz94 {p : Prop} (h : p := by (with_reducible repeat (first | apply Kd.R_alloc | apply Kd.R_drewN | apply Kd.R_drew)); exact jD.out) : p := h
theorem zz95 {p : Prop} (h : p := by (with_reducible repeat (first | apply Kd.R_alloc | apply Kd.R_drewN | apply Kd.R_drew)); exact Kd.R_mono aM.out (fun _ hk => ⟨hk.2, hk.1⟩)) : p := h
theorem zz96 {p : Prop} (h : p := by (with_reducible repeat (first | apply Kd.R_alloc | apply Kd.R_drewN | apply Kd.R_drew)); exact Kd.R_mono aU.out (fun _ hk => ⟨hk.2, hk.1⟩)) : p := h
theorem zz97 {p : Prop} (h : p := by (with_reducible repeat (first | apply Kd.R_alloc | apply Kd.R_drewN | apply Kd.R_drew)); exact Kd.R_mono fT.out (fun _ hk => ⟨hk.1.2, hk.2⟩)) : p := h
theorem zz98 {p : Prop} (h : p := by (with_reducible repeat (first | apply Kd.R_alloc | apply Kd.R_drewN | apply Kd.R_drew)); exact (Kd.R_mono (Kd.R_far (p := ⟨bI, 1, none⟩) (Kd.R_far (p := ⟨bI, 0, none⟩) (Kd.R_types bG.out aJ.out (by decide)) (fun _ hk => hk.2) (.int .i64 ((rd_T76 aC a6).f0))) (fun _ hk => hk.2) (.int .i64 ((rd_T76 aC a6).f1))) (fun _ h_ => h_.1))) : p := h
theorem zz99 {p : Prop} (h : p := by have := HK1.out; omega) : p := h
theorem zz100 {p : Prop} (h : p := by repeat (first | (with_reducible first | exact HBW.out | apply below_alloc | apply pw_below_drewN | apply below_drew1) | exact HBW.out)) : p := h
theorem zz101 {p : Prop} (h : p := by rw [hg]; exact Nat.ne_of_lt (blk_lt (g := aW) (o := .cells #[.int .i64 bK, u103001] 30 (0, 0)) zz7)) : p := h
theorem zz102 {p : Prop} (h : p := by rw [hg]; exact Nat.ne_of_gt (blk_lt (g := aW) (o := .cells #[.int .i64 bK, u103001] 30 (0, 0)) zz7)) : p := h
theorem zz103 {p : Prop} (h : p := by repeat (first | exact (Kd.R_reads' d6.out).2.2 | (with_reducible refine Kd.C_alloc ?_ _) | (with_reducible refine Kd.C_drewN ?_ _) | (with_reducible refine Kd.C_drew ?_))) : p := h
theorem zz104 {p : Prop} (h : p := by repeat (first | exact (Kd.R_reads' bX.out).2.2 | (with_reducible refine Kd.C_alloc ?_ _) | (with_reducible refine Kd.C_drewN ?_ _) | (with_reducible refine Kd.C_drew ?_))) : p := h
theorem zz105 {p : Prop} (h : p := by repeat (first | (with_reducible first | exact HB.out | apply below_alloc | apply pw_below_drewN | apply below_drew1 | refine below_set ?_ (IsS92.ge HI0.out) | refine below_set ?_ GE101.out) | exact HB.out)) : p := h
theorem zz106 {p : Prop} (h : p := by repeat (first | (with_reducible first | exact HI0.out | apply IsS92.alloc | apply IsS92.drewN | apply IsS92.drew | apply IsS92.set_1 | apply IsS92.set_2 | refine IsS92.far ?_ bF.out _) | exact HI0.out)) : p := h
theorem zz107 {p : Prop} (h : p := by first | (refine spec_l02Draw.same_ HI0.out ?_; (repeat (first | (with_reducible first | exact HI0.out | apply IsS92.alloc | apply IsS92.drewN | apply IsS92.drew | apply IsS92.set_1 | apply IsS92.set_2 | refine IsS92.far ?_ bF.out _ | refine IsS92.far ?_ bR.out _) | exact HI0.out)); first | done | exact HI0.out) | (repeat (first | (with_reducible first | exact HI0.out | apply IsS92.alloc | apply IsS92.drewN | apply IsS92.drew | apply IsS92.set_1 | apply IsS92.set_2 | refine IsS92.far ?_ bF.out _ | refine IsS92.far ?_ bR.out _) | exact HI0.out))) : p := h
theorem zz108 {p : Prop} (h : p := by (with_reducible repeat (first | refine blk_drewN ?_ _ | refine blk_drew ?_ | refine blk_alloc ?_ _)); refine blk_put (cs := #[.int .i64 aD, u108001]) ?_ 1 _ rfl; (with_reducible repeat (first | refine blk_drewN ?_ _ | refine blk_drew ?_ | refine blk_alloc ?_ _)); exact bC.out) : p := h
theorem zz109 {p : Prop} (h : p := by rw [hg]; exact Nat.ne_of_lt (blk_lt (g := aW) (o := .cells #[.int .i64 0, .slice none 0 0] 30 (0, 0)) zz7)) : p := h
theorem zz110 {p : Prop} (h : p := by rw [hg]; exact Nat.ne_of_gt (blk_lt (g := aW) (o := .cells #[.int .i64 0, .slice none 0 0] 30 (0, 0)) zz7)) : p := h
theorem zz111 {p : Prop} (h : p := by (with_reducible repeat (first | apply Kd.R_alloc | apply Kd.R_drewN | apply Kd.R_drew)); exact bB.out) : p := h
theorem zz112 {p : Prop} (h : p := by rw [hg]; exact Nat.ne_of_lt (blk_lt (g := aE) (o := .cells #[.int .i64 aD, .slice (some g7) aC.length aG] 30 (0, 0)) zz1)) : p := h
theorem zz113 {p : Prop} (h : p := by rw [hg]; exact Nat.ne_of_gt (blk_lt (g := aE) (o := .cells #[.int .i64 aD, .slice (some g7) aC.length aG] 30 (0, 0)) zz1)) : p := h
theorem zz114 {p : Prop} (h : p := by rw [hg]; exact (by first | exact HK.out.1 | exact (show Kept w _ (fun k_ => P1_ k_) from by repeat (first | (with_reducible first | exact HK.out | apply Kept.alloc | apply Kept.drewN | apply Kept.drew | refine Kept.setCell ?_ (.inr GW101.out) _) | exact HK.out)).1)) : p := h
theorem zz115 {p : Prop} (h : p := by (with_reducible repeat (first | apply Kd.R_alloc | apply Kd.R_drewN | apply Kd.R_drew)); exact fU.out) : p := h
theorem zz116 {p : Prop} (h : p := by (with_reducible repeat (first | apply Kd.R_alloc | apply Kd.R_drewN | apply Kd.R_drew)); exact k7.out) : p := h
theorem zz117 {p : Prop} (h : p := by (with_reducible repeat (first | apply Kd.R_alloc | apply Kd.R_drewN | apply Kd.R_drew)); exact kH.out) : p := h
theorem zz118 {p : Prop} (h : p := by repeat (first | (with_reducible first | exact HB.out | apply below_alloc | apply pw_below_drewN | apply below_drew1 | refine below_set ?_ (IsS92.ge HI104.out)) | exact HB.out)) : p := h
theorem zz119 {p : Prop} (h : p := by rw [hg]; exact Nat.ne_of_lt (IsS92.lt (show IsS92 w0 _ g s0_0 s0_1 s0_2 from by repeat (first | (with_reducible first | exact HI0.out | apply IsS92.alloc | apply IsS92.drewN | apply IsS92.drew | apply IsS92.set_1 | apply IsS92.set_2) | exact HI0.out)))) : p := h
theorem zz120 {p : Prop} (h : p := by rw [hg]; exact Nat.ne_of_gt (IsS92.lt (show IsS92 w0 _ g s0_0 s0_1 s0_2 from by repeat (first | (with_reducible first | exact HI0.out | apply IsS92.alloc | apply IsS92.drewN | apply IsS92.drew | apply IsS92.set_1 | apply IsS92.set_2) | exact HI0.out)))) : p := h
theorem zz121 {p : Prop} (h : p := by rw [hw]; exact (by (with_reducible repeat (first | refine blk_drewN ?_ _ | refine blk_drew ?_ | refine blk_alloc ?_ _)); refine blk_put (cs := #[.int .i64 ((rd_T76 aC bA).f0), .int .i64 0]) ?_ 1 _ rfl; (with_reducible repeat (first | refine blk_drewN ?_ _ | refine blk_drew ?_ | refine blk_alloc ?_ _)); refine blk_put (cs := #[.int .i64 0, .int .i64 0]) ?_ 0 _ rfl; (with_reducible repeat (first | refine blk_drewN ?_ _ | refine blk_drew ?_ | refine blk_alloc ?_ _)); exact bS.out)) : p := h
theorem zz122 {p : Prop} (h : p := by repeat (first | (with_reducible first | exact HB.out | apply below_alloc | apply pw_below_drewN | apply below_drew1 | refine below_set ?_ GE102.out) | exact HB.out)) : p := h
theorem zz123 {p : Prop} (h : p := by (with_reducible repeat (first | refine blk_drewN ?_ _ | refine blk_drew ?_ | refine blk_alloc ?_ _)); refine blk_put (cs := #[.int .i64 ((rd_T76 aC a6).f0), .int .i64 0]) ?_ 1 _ rfl; (with_reducible repeat (first | refine blk_drewN ?_ _ | refine blk_drew ?_ | refine blk_alloc ?_ _)); refine blk_put (cs := #[.int .i64 0, .int .i64 0]) ?_ 0 _ rfl; (with_reducible repeat (first | refine blk_drewN ?_ _ | refine blk_drew ?_ | refine blk_alloc ?_ _)); exact aJ.out) : p := h
theorem zz124 {p : Prop} (h : p := by repeat (first | (with_reducible first | exact HB.out | apply below_alloc | apply pw_below_drewN | apply below_drew1 | refine below_set ?_ GE101.out | refine below_set ?_ GE102.out | refine below_set ?_ GE106.out) | exact HB.out)) : p := h
theorem zz125 {p : Prop} (h : p := by rw [hg]; exact Nat.ne_of_lt (blk_lt (g := bI) (o := .cells #[.int .i64 cI, .int .i64 d8] 76 (0, 0)) zz20)) : p := h
theorem zz126 {p : Prop} (h : p := by rw [hg]; exact Nat.ne_of_gt (blk_lt (g := bI) (o := .cells #[.int .i64 cI, .int .i64 d8] 76 (0, 0)) zz20)) : p := h
theorem zz127 {p : Prop} (h : p := by (with_reducible repeat (first | refine blk_drewN ?_ _ | refine blk_drew ?_ | refine blk_alloc ?_ _)); refine blk_put (cs := #[.int .i64 bT, .int .i64 0]) ?_ 1 _ rfl; (with_reducible repeat (first | refine blk_drewN ?_ _ | refine blk_drew ?_ | refine blk_alloc ?_ _)); refine blk_put (cs := #[.int .i64 0, .int .i64 0]) ?_ 0 _ rfl; (with_reducible repeat (first | refine blk_drewN ?_ _ | refine blk_drew ?_ | refine blk_alloc ?_ _)); exact cQ.out) : p := h
theorem zz128 {p : Prop} (h : p := by (try simp only [eV]); (try simp only [fS]); (try simp only [f3]); (try simp only [fZ]); (with_reducible repeat (first | refine blk_drewN ?_ _ | refine blk_drew ?_ | refine blk_alloc ?_ _)); exact aA.out) : p := h
theorem zz129 {p : Prop} (h : p := by rw [hg]; exact Nat.ne_of_lt (blk_lt (g := dO) (o := .cells #[.int .i64 aD, u108001] 30 (0, 0)) zz50)) : p := h
theorem zz130 {p : Prop} (h : p := by rw [hg]; exact Nat.ne_of_gt (blk_lt (g := dO) (o := .cells #[.int .i64 aD, u108001] 30 (0, 0)) zz50)) : p := h
theorem zz131 {p : Prop} (h : p := by (with_reducible repeat (first | apply Kd.R_alloc | apply Kd.R_drewN | apply Kd.R_drew)); exact gA.out) : p := h
theorem zz132 {p : Prop} (h : p := by repeat (first | (with_reducible first | exact HB.out | apply below_alloc | apply pw_below_drewN | apply below_drew1 | refine below_set ?_ (IsS92.ge HI105.out) | refine below_set ?_ GE101.out) | exact HB.out)) : p := h
theorem zz133 {p : Prop} (h : p := by repeat (first | (with_reducible first | exact HB.out | apply below_alloc | apply pw_below_drewN | apply below_drew1 | refine below_set ?_ GE101.out | refine below_set ?_ GE105.out) | exact HB.out)) : p := h
theorem zz134 {p : Prop} (h : p := by have := HJ3.out; have := HK2.out; omega) : p := h
theorem zz135 {p : Prop} (h : p := by rw [hw]; exact (by (with_reducible repeat (first | apply Kd.R_alloc | apply Kd.R_drewN | apply Kd.R_drew)); exact Kd.R_mono (Kd.R_far (p := ⟨cF, 1, none⟩) (Kd.R_far (p := ⟨cF, 0, none⟩) (Kd.R_types dR.out bS.out (by decide)) (fun _ hk => hk.2) (.int .i64 ((rd_T76 aC bA).f0))) (fun _ hk => hk.2) (.int .i64 ((rd_T76 aC bA).f1))) (fun _ hk => hk.1))) : p := h
theorem zz136 {p : Prop} (h : p := by rw [hg]; exact Nat.ne_of_lt (IsS92.lt (show IsS92 w0 _ g s0_0 kP mG from by repeat (first | (with_reducible first | exact HI0.out | apply IsS92.alloc | apply IsS92.drewN | apply IsS92.drew | apply IsS92.set_1 | apply IsS92.set_2 | refine IsS92.far ?_ bF.out _ | refine IsS92.far ?_ bR.out _ | refine IsS92.far ?_ cG.out _) | exact HI0.out)))) : p := h
theorem zz137 {p : Prop} (h : p := by rw [hg]; exact Nat.ne_of_gt (IsS92.lt (show IsS92 w0 _ g s0_0 kP mG from by repeat (first | (with_reducible first | exact HI0.out | apply IsS92.alloc | apply IsS92.drewN | apply IsS92.drew | apply IsS92.set_1 | apply IsS92.set_2 | refine IsS92.far ?_ bF.out _ | refine IsS92.far ?_ bR.out _ | refine IsS92.far ?_ cG.out _) | exact HI0.out)))) : p := h
theorem zz138 {p : Prop} (h : p := by (with_reducible repeat (first | refine blk_drewN ?_ _ | refine blk_drew ?_ | refine blk_alloc ?_ _)); exact bS.out) : p := h
theorem zz139 {p : Prop} (h : p := by (with_reducible repeat (first | apply Kd.R_alloc | apply Kd.R_drewN | apply Kd.R_drew)); exact Kd.R_mono (Kd.R_far (p := ⟨bI, 1, none⟩) (Kd.R_far (p := ⟨bI, 0, none⟩) (Kd.R_types bG.out aJ.out (by decide)) (fun _ hk => hk.2) (.int .i64 ((rd_T76 aC a6).f0))) (fun _ hk => hk.2) (.int .i64 ((rd_T76 aC a6).f1))) (fun _ hk => trivial)) : p := h
theorem zz140 {p : Prop} (h : p := by repeat (first | (with_reducible first | exact HI104.out | apply IsS92.alloc | apply IsS92.drewN | apply IsS92.drew | apply IsS92.set_1 | apply IsS92.set_2) | exact HI104.out)) : p := h
theorem zz141 {p : Prop} (h : p := by repeat (first | (with_reducible first | exact HK.out | apply Kept.alloc | apply Kept.drewN | apply Kept.drew | refine Kept.setCell ?_ (.inr GW101.out) _) | exact HK.out)) : p := h
theorem zz142 {p : Prop} (h : p := by (with_reducible repeat (first | apply Kd.R_alloc | apply Kd.R_drewN | apply Kd.R_drew)); exact (Kd.R_mono (Kd.R_far (p := ⟨cY, 1, none⟩) (Kd.R_far (p := ⟨cY, 0, none⟩) (Kd.R_types cN.out aQ.out (by decide)) (fun _ hk => hk.2) (.int .i64 bH)) (fun _ hk => hk.2) (.slice Ao10 aT.length co10)) (fun _ h_ => h_.1))) : p := h
theorem zz143 {p : Prop} (h : p := by repeat (first | (with_reducible first | exact HBW.out | apply below_alloc | apply pw_below_drewN | apply below_drew1 | refine below_set ?_ GWg.out) | exact HBW.out)) : p := h
theorem zzS {p : Prop} (h : p := by simp only [Act.put, List.setIfInBounds_toArray, List.set_cons_zero, List.set_cons_succ, i64_w, i32_w]; rfl) : p := h
theorem zzT {p : Prop} (h : p := by go_simp; with_reducible rfl) : p := h
theorem zQ {P : Program} {ops : Array Oper} {Q : Exit → Act → World → Prop} {md : Region.Mode} {S : World → Prop} {ds : List Nat} {T : Bool × List (List Nat × List Nat)} {oi : Oper} {fuel : Nat} {l : Array Bool} {a : Act} {w : World} {v : Value} {a' : Act} (i : Nat) (N : Tmp) (l' : Array Bool) (h : wpAnyLast P md ops Q S ds fuel l' a' w) (hi : ops[i]? = some oi := by exact rfl) (hN : oi.dst = some N := by exact rfl) (hT : rtab md ops = T := by exact HT_.out) (hy : ∀ w, (execOp a.eval oi).run P w = .ok (.value v) w := by exact fun _ => zzT) (ha : a.put (some N) v = a' := by exact zzS)
  (hw : Region.wanted oi (yielded ops a.tmps) = true := by rfl) (hc : anyT T l.toList l'.toList i = true := by kernel_rfl) (hQ : ∀ c a w, Q (.panic c) (a.put oi.dst v) w → Q (.panic c) a w := by exact fun _ _ _ h => h) : wpAnyLast P md ops Q S ds (fuel + 1) l a w := zP i N v l' hi hN hT hy a' ha h hw hc hQ

end Go.Proofs.Ytkcbinohpdhbgaa.P
namespace Go.Proofs.Ytkcbinohpdhbgaa.P
open Go.RowKit Go.Proofs.YtkcbinohpdhbgaaW.PrintWords Go.Proofs.YtkcbinohpdhbgaaW.PrintLast Go.Proofs.YtkcbinohpdhbgaaW.PrintMore
attribute [local go_sem] max2_int min2_int max_two min_two max_three min_three max_four min_four
set_option linter.unusedVariables false
set_option linter.unusedSimpArgs false
def impl_within.f (a0 : Int) (a1 : Int) (a2 : Int) : Option (Bool) := if a0 ≥ a1 then (some (decide (a0 ≤ a2))) else (some false)
theorem impl_within.calls (a0 : Int) (a1 : Int) (a2 : Int) (r : Bool) (w : World) (h : impl_within.f a0 a1 a2 = some r) :
  Calls Try.prog 55 #[.int .i64 a0, .int .i64 a1, .int .i64 a2] w fun e w' => e = .returned (.bool r) ∧ Drawn0 w w' := by
 have H : (if a0 ≥ a1 then (some (decide (a0 ≤ a2))) else (some false)) = some r := h; clear h; by_cases c4 : a0 ≥ a1
 ·rw [if_pos c4] at H; have iQ : decide (a1 ≤ a0) = true := decide_eq_true c4; clear c4; obtain rfl := Option.some.inj H; go_enter Try.func55, Try.ntmps55; go_wp2; go_ret; exact ⟨zz6, by repeat (first | exact Drawn0.refl _ | apply Drawn0.step)⟩
 rw [if_neg c4] at H; have iQ : decide (a1 ≤ a0) = false := decide_eq_false c4; clear c4; obtain rfl := Option.some.inj H; go_enter Try.func55, Try.ntmps55; go_wp2; go_ret; exact ⟨zz6, by repeat (first | exact Drawn0.refl _ | apply Drawn0.step)⟩
end Go.Proofs.Ytkcbinohpdhbgaa.P
end

section
namespace Go.Proofs.Ytkcbinohpdhbgaa.P
open Go.RowKit Go.Proofs.YtkcbinohpdhbgaaW.PrintWords Go.Proofs.YtkcbinohpdhbgaaW.PrintLast Go.Proofs.YtkcbinohpdhbgaaW.PrintMore
attribute [local go_sem] max2_int min2_int max_two min_two max_three min_three max_four min_four
set_option linter.unusedVariables false
set_option linter.unusedSimpArgs false
mutual
def impl_EdgesOk.j0 : Nat → Bool → Int → List (S76) → Option (Bool)
 | 0, _, _, _ => none
 | k + 1, rJ, aY, aX => if rJ = true then (some false) else (impl_EdgesOk.l0 k aX (aX.length : Int) 0 aY aX)
def impl_EdgesOk.l0 : Nat → List (S76) → Int → Int → Int → List (S76) → Option (Bool)
 | 0, _, _, _, _, _ => none
 | k + 1, nU, mN, oY, aY, aX => if oY < mN then (if 0 ≤ oY then (if oY < (nU.length : Int) then (if ((rd_T76 nU oY).f0) < 0 then (some false) else (if ((rd_T76 nU oY).f0) ≥ ((rd_T76 nU oY).f1) then (some false) else (if ((rd_T76 nU oY).f1) ≥ aY then (some false) else (impl_EdgesOk.l0 k nU mN (wrap64 (oY + 1)) aY aX)))) else (none)) else (none)) else (some true)
end
def impl_EdgesOk.f (k : Nat) (aD : Int) (aC : List (S76)) : Option (Bool) := (impl_within.f aD 1 6).bind fun aT => (if aT = true then (impl_EdgesOk.j0 k (decide ((aC.length : Int) > 12)) aD aC) else (impl_EdgesOk.j0 k true aD aC))
theorem impl_EdgesOk.mono_l : ∀ k, (∀ y0 y1 y2, LeO (impl_EdgesOk.j0 k y0 y1 y2) (impl_EdgesOk.j0 (k + 1) y0 y1 y2)) ∧ (∀ y0 y1 y2 y3 y4, LeO (impl_EdgesOk.l0 k y0 y1 y2 y3 y4) (impl_EdgesOk.l0 (k + 1) y0 y1 y2 y3 y4))
 | 0 => ⟨fun _ _ _ r h => by simp [impl_EdgesOk.j0] at h, fun _ _ _ _ _ r h => by simp [impl_EdgesOk.l0] at h⟩
 | k + 1 => by
  obtain ⟨ih0, ih1⟩ := impl_EdgesOk.mono_l k
  refine ⟨?_, ?_⟩
  ·intro y0 y1 y2
   unfold impl_EdgesOk.j0
   exact zm1
  ·intro y0 y1 y2 y3 y4
   unfold impl_EdgesOk.l0
   exact zm1
theorem impl_EdgesOk.mono : ∀ a0 a1 k, LeO (impl_EdgesOk.f k a0 a1) (impl_EdgesOk.f (k + 1) a0 a1) := by
 intro a0 a1 k; obtain ⟨ih0, ih1⟩ := impl_EdgesOk.mono_l k; unfold impl_EdgesOk.f; exact zm1
theorem impl_EdgesOk.calls (k : Nat) (aD : Int) (aH : Option Addr) (aG : Nat) (aC : List (S76)) (r : Bool) (w : World) (hr0_1 : Kd.C k76 w aH aC.length aC) (hc0_1 : aC.length ≤ aG) (h : impl_EdgesOk.f k aD aC = some r) :
  Calls Try.prog 73 #[.agg #[.int .i64 aD, .slice aH aC.length aG]] w fun e w' => e = .returned (.bool r) ∧ Below w.heap.size w w' := by
 have hu30 := Try.underlying30; have hu76 := Try.underlying76; have cB := zK_ hr0_1; have bO := zK_ hc0_1; clear hr0_1 hc0_1; have HB := zK_ (Below.refl w.heap.size w); have H : ((impl_within.f aD 1 6).bind fun aT => (if aT = true then (impl_EdgesOk.j0 k (decide ((aC.length : Int) > 12)) aD aC) else (impl_EdgesOk.j0 k true aD aC))) = some r := h; clear h; have HC2 := zK_ H; clear H; go_enter Try.func73, Try.ntmps73; (go_upto_region 1 with (first | ((with_reducible refine gate_dst (N := 1) rfl ?_); (try (refine gate_guard (by rfl) ?_; dsimp only)); refine box_event ?hg (N := 1) ?hd (cs := #[.int .i64 aD, .slice aH aC.length aG]) (t := 30) ?hr ?_; (case hd => rfl); (case hg => rfl); (case hr => exact zz21); intro aE hg w3 hbox hb; have n_ := zA4 (below_step zz2 hb) hbox (zz18 : w.heap.size ≤ aE) (zz18 : w.heap.size ≤ aE); clear HB; obtain ⟨HB, aA, GW101, GE101⟩ := n_; clear hb hbox hg))); (try simp only [Act.put, List.setIfInBounds_toArray, List.set_cons_zero, List.set_cons_succ]); go_cut [14] (fun v14 wc => ∃ (kq : Nat) (dT : Bool), v14 = .bool dT ∧ Aside0 (impl_EdgesOk.j0 kq dT aD aC = some r) ∧ Aside0 (kq ≤ k) ∧ Aside0 (wc.heap[aE]? = some (.cells #[.int .i64 aD, (.slice aH aC.length aG)] 30 (0, 0))) ∧ Aside0 (Below w.heap.size w wc))
 case first =>
  have H := HC2.out; clear HC2; obtain ⟨aT, A40, H⟩ := zO_ H; (try dsimp only at H); have A4 := zK_ A40; clear A40; by_cases c5 : aT = true
  ·subst c5; rw [if_pos rfl] at H; have H' := zK_ H; clear H; have jQ := zC20 aA; have jP := zC21 aA; have jO := blk_frozen aA.out 0; have jN := blk_frozen aA.out 1; (go_wp2_with (first | ((with_reducible refine gate_callee (f := 55) rfl ?_); refine goesL_ (some 7) rfl rfl Try.func55 (by kernel_rfl) rfl #[.int .i64 aD, .int .i64 1, .int .i64 6] rfl zz3 ?_; (with_reducible refine (impl_within.calls aD 1 6 true _ A4.out).mono ?_); rintro e w' ⟨rfl, ⟨nd, rfl⟩⟩; refine ⟨_, rfl, ?_⟩))); (go_meet); case rel => exact ⟨_, (decide ((aC.length : Int) > 12)), zz6, H', ⟨by first | omega | exact Nat.le_refl _⟩, ⟨zz1⟩, ⟨zz0⟩⟩
  replace c5 := Bool.eq_false_iff.mpr c5; subst c5; rw [if_neg (show ¬ (false = true) by decide)] at H; have H' := zK_ H; clear H; have f8 := zC20 aA; have f7 := zC21 aA; have f6 := blk_frozen aA.out 0; have f4 := blk_frozen aA.out 1; (go_wp2_with (first | ((with_reducible refine gate_callee (f := 55) rfl ?_); refine goesL_ (some 7) rfl rfl Try.func55 (by kernel_rfl) rfl #[.int .i64 aD, .int .i64 1, .int .i64 6] rfl zz3 ?_; (with_reducible refine (impl_within.calls aD 1 6 false _ A4.out).mono ?_); rintro e w' ⟨rfl, ⟨nd, rfl⟩⟩; refine ⟨_, rfl, ?_⟩))); (go_meet); case rel => exact ⟨_, (true), zz6, H', ⟨by first | omega | exact Nat.le_refl _⟩, ⟨zz1⟩, ⟨zz0⟩⟩
 case rest =>
  clear HC2; (try clear p2); (try clear c5); (try clear c7); (try clear jQ); (try clear jP); (try clear f8); (try clear f7); (try clear jO); (try clear jN); (try clear f6); (try clear f4); obtain ⟨kq, dT, rfl, HA, HJ1, aA, HB⟩ := hcut
  cases kq with
  | zero => exact absurd HA.out (by simp [impl_EdgesOk.j0])
  | succ kj1 =>
   have H := HA.out; clear HA; simp only [impl_EdgesOk.j0] at H; by_cases c8 : dT = true
   ·subst c8; rw [if_pos rfl] at H; obtain rfl := Option.some.inj H; go_wp2; go_ret; exact ⟨zz10, zz0⟩
   replace c8 := Bool.eq_false_iff.mpr c8; subst c8; rw [if_neg (show ¬ (false = true) by decide)] at H; have H' := zK_ H; clear H; have fQ := zC20 aA; have fP := zC21 aA; have fO := blk_frozen aA.out 0; have fN := blk_frozen aA.out 1; go_wp2; (go_loopg [18] kj1 (fun kq v18 w' => ∃ (cP : Int), v18 = .int .i64 cP ∧ Aside0 (impl_EdgesOk.l0 kq aC (aC.length : Int) cP aD aC = some r) ∧ Aside0 (kq ≤ kj1) ∧ Aside0 (w'.heap[aE]? = some (.cells #[.int .i64 aD, (.slice aH aC.length aG)] 30 (0, 0))) ∧ Aside0 (Below w.heap.size w w'))); case atStart => exact ⟨(0), zz6, H', ⟨Nat.le_refl _⟩, ⟨zz1⟩, ⟨zz0⟩⟩
   case round =>
    clear H'; (try clear p2); (try clear c5); (try clear c7); (try clear c8); (try clear jQ); (try clear jP); (try clear f8); (try clear f7); (try clear fQ); (try clear fP); (try clear jO); (try clear jN); (try clear f6); (try clear f4); (try clear fO); (try clear fN); (try clear p2); obtain ⟨cP, rfl, HA, HK2, aA, HB⟩ := hrel
    cases gk with
    | zero => exact absurd HA.out (by simp [impl_EdgesOk.l0])
    | succ k2 =>
     have H := HA.out; clear HA; simp only [impl_EdgesOk.l0] at H; by_cases c10 : cP < (aC.length : Int); rotate_left
     ·rw [if_neg c10] at H; have g6 := decide_eq_false c10; clear c10; obtain rfl := Option.some.inj H; go_wp2; go_ret; exact ⟨zz10, zz0⟩
     rw [if_pos c10] at H; have g6 := decide_eq_true c10; clear c10; by_cases c11 : 0 ≤ cP; rotate_left
     ·rw [if_neg c11] at H; exact absurd H (by simp)
     rw [if_pos c11] at H; have nP := decide_eq_true c11; clear c11; by_cases c12 : cP < (aC.length : Int); rotate_left
     ·rw [if_neg c12] at H; exact absurd H (by simp)
     rw [if_pos c12] at H; have mJ := decide_eq_true c12; clear c12; by_cases c13 : ((rd_T76 aC cP).f0) < 0
     ·rw [if_pos c13] at H; have kE := decide_eq_true c13; clear c13; obtain rfl := Option.some.inj H; have p103 : 0 ≤ (cP : Int) := of_decide_eq_true zz4; have q103 : cP < (aC.length : Int) := of_decide_eq_true zz4; obtain ⟨bZ, e103, bL, bV⟩ := at_T76 cB.out cP p103 q103; cases e103; replace bL := (HB.out.cell (World.block_lt_of_cell? w _ bL)).trans bL; replace bV := (HB.out.cell (World.block_lt_of_cell? w _ bV)).trans bV; replace p103 := eq_true p103; replace q103 := eq_true q103; (go_wp2_with (first | ((with_reducible refine gate_dst (N := 4) rfl ?_); (try (refine gate_guard (by rfl) ?_; dsimp only)); refine box_event ?hg (N := 4) ?hd (cs := #[.int .i64 0, .int .i64 0]) (t := 76) ?hr ?_; (case hd => rfl); (case hg => rfl); (case hr => exact zz21); intro bE hg w14 hbox hb; have n_ := zA7 (blk_below (g := aE) (o := .cells #[.int .i64 aD, .slice (some bZ) aC.length aG] 30 (0, 0)) zz1 hb) (below_step zz0 hb) hbox (zz47 : w.heap.size ≤ bE) (zz47 : w.heap.size ≤ bE) (zz57 : aE ≠ bE) (zz58 : bE ≠ aE); clear aA HB; obtain ⟨aA, HB, bM, GW104, GE104, cK, cS⟩ := n_; clear hb hbox hg; have P3 := cS.out; have OY := cK.out; have oG := zC20 bM; have oF := zC21 bM; have n8 := blk_frozen bM.out 0; have n7 := blk_frozen bM.out 1))); go_ret; exact ⟨zz10, zz26⟩
     rw [if_neg c13] at H; have kE := decide_eq_false c13; clear c13; by_cases c17 : ((rd_T76 aC cP).f0) ≥ ((rd_T76 aC cP).f1)
     ·rw [if_pos c17] at H; have jR : decide (((rd_T76 aC cP).f1) ≤ ((rd_T76 aC cP).f0)) = true := decide_eq_true c17; clear c17; obtain rfl := Option.some.inj H; have p103 : 0 ≤ (cP : Int) := of_decide_eq_true zz4; have q103 : cP < (aC.length : Int) := of_decide_eq_true zz4; obtain ⟨bZ, e103, bL, bV⟩ := at_T76 cB.out cP p103 q103; cases e103; replace bL := (HB.out.cell (World.block_lt_of_cell? w _ bL)).trans bL; replace bV := (HB.out.cell (World.block_lt_of_cell? w _ bV)).trans bV; replace p103 := eq_true p103; replace q103 := eq_true q103; (go_wp2_with (first | ((with_reducible refine gate_dst (N := 4) rfl ?_); (try (refine gate_guard (by rfl) ?_; dsimp only)); refine box_event ?hg (N := 4) ?hd (cs := #[.int .i64 0, .int .i64 0]) (t := 76) ?hr ?_; (case hd => rfl); (case hg => rfl); (case hr => exact zz21); intro bE hg w18 hbox hb; have n_ := zA7 (blk_below (g := aE) (o := .cells #[.int .i64 aD, .slice (some bZ) aC.length aG] 30 (0, 0)) zz1 hb) (below_step zz0 hb) hbox (zz47 : w.heap.size ≤ bE) (zz47 : w.heap.size ≤ bE) (zz57 : aE ≠ bE) (zz58 : bE ≠ aE); clear aA HB; obtain ⟨aA, HB, bM, GW104, GE104, cK, cS⟩ := n_; clear hb hbox hg; have xX := cS.out; have xT := cK.out; have m5 := zC20 bM; have m4 := zC21 bM; have lU := blk_frozen bM.out 0; have lT := blk_frozen bM.out 1))); go_ret; exact ⟨zz10, zz26⟩
     rw [if_neg c17] at H; have jR : decide (((rd_T76 aC cP).f1) ≤ ((rd_T76 aC cP).f0)) = false := decide_eq_false c17; clear c17; by_cases c21 : ((rd_T76 aC cP).f1) ≥ aD
     ·rw [if_pos c21] at H; have oM : decide (aD ≤ ((rd_T76 aC cP).f1)) = true := decide_eq_true c21; clear c21; obtain rfl := Option.some.inj H; have p103 : 0 ≤ (cP : Int) := of_decide_eq_true zz4; have q103 : cP < (aC.length : Int) := of_decide_eq_true zz4; obtain ⟨bZ, e103, bL, bV⟩ := at_T76 cB.out cP p103 q103; cases e103; replace bL := (HB.out.cell (World.block_lt_of_cell? w _ bL)).trans bL; replace bV := (HB.out.cell (World.block_lt_of_cell? w _ bV)).trans bV; replace p103 := eq_true p103; replace q103 := eq_true q103; (go_wp2_with (first | ((with_reducible refine gate_dst (N := 4) rfl ?_); (try (refine gate_guard (by rfl) ?_; dsimp only)); refine box_event ?hg (N := 4) ?hd (cs := #[.int .i64 0, .int .i64 0]) (t := 76) ?hr ?_; (case hd => rfl); (case hg => rfl); (case hr => exact zz21); intro bE hg w22 hbox hb; have n_ := zA7 (blk_below (g := aE) (o := .cells #[.int .i64 aD, .slice (some bZ) aC.length aG] 30 (0, 0)) zz1 hb) (below_step zz0 hb) hbox (zz47 : w.heap.size ≤ bE) (zz47 : w.heap.size ≤ bE) (zz57 : aE ≠ bE) (zz58 : bE ≠ aE); clear aA HB; obtain ⟨aA, HB, bM, GW104, GE104, cK, cS⟩ := n_; clear hb hbox hg; have PZ := cS.out; have OU := cK.out; have l7 := zC20 bM; have l6 := zC21 bM; have lS := blk_frozen bM.out 0; have lR := blk_frozen bM.out 1; have gN := zC20 aA; have gM := zC21 aA; have gG := blk_frozen aA.out 0; have gF := blk_frozen aA.out 1))); go_ret; exact ⟨zz10, zz26⟩
     rw [if_neg c21] at H; have oM : decide (aD ≤ ((rd_T76 aC cP).f1)) = false := decide_eq_false c21; clear c21; have H' := zK_ H; clear H; have p103 : 0 ≤ (cP : Int) := of_decide_eq_true zz4; have q103 : cP < (aC.length : Int) := of_decide_eq_true zz4; obtain ⟨bZ, e103, bL, bV⟩ := at_T76 cB.out cP p103 q103; cases e103; replace bL := (HB.out.cell (World.block_lt_of_cell? w _ bL)).trans bL; replace bV := (HB.out.cell (World.block_lt_of_cell? w _ bV)).trans bV; replace p103 := eq_true p103; replace q103 := eq_true q103; (go_wp2_with (first | ((with_reducible refine gate_dst (N := 4) rfl ?_); (try (refine gate_guard (by rfl) ?_; dsimp only)); refine box_event ?hg (N := 4) ?hd (cs := #[.int .i64 0, .int .i64 0]) (t := 76) ?hr ?_; (case hd => rfl); (case hg => rfl); (case hr => exact zz21); intro bE hg w26 hbox hb; have n_ := zA7 (blk_below (g := aE) (o := .cells #[.int .i64 aD, .slice (some bZ) aC.length aG] 30 (0, 0)) zz1 hb) (below_step zz0 hb) hbox (zz47 : w.heap.size ≤ bE) (zz47 : w.heap.size ≤ bE) (zz57 : aE ≠ bE) (zz58 : bE ≠ aE); clear aA HB; obtain ⟨aA, HB, bM, GW104, GE104, cK, cS⟩ := n_; clear hb hbox hg; have BJ := cS.out; have AV := cK.out; have tC := zC20 bM; have tB := zC21 bM; have sS := blk_frozen bM.out 0; have sR := blk_frozen bM.out 1; have oE := zC20 aA; have oD := zC21 aA; have n5 := blk_frozen aA.out 0; have n4 := blk_frozen aA.out 1))); go_roundg k2; (case measure => have := HJ1.out; have := HK2.out; omega); case rel => exact ⟨(wrap64 (cP + 1)), zz6, H', ⟨by have := HJ1.out; have := HK2.out; omega⟩, ⟨zz36⟩, ⟨zz26⟩⟩
end Go.Proofs.Ytkcbinohpdhbgaa.P
end

section
namespace Go.Proofs.Ytkcbinohpdhbgaa.P
open Go.RowKit Go.Proofs.YtkcbinohpdhbgaaW.PrintWords Go.Proofs.YtkcbinohpdhbgaaW.PrintLast Go.Proofs.YtkcbinohpdhbgaaW.PrintMore
attribute [local go_sem] max2_int min2_int max_two min_two max_three min_three max_four min_four
set_option linter.unusedVariables false
set_option linter.unusedSimpArgs false
mutual
def impl_connected.l0 : Nat → Int → List (S76) → Int → Int → Int → Option (Bool)
 | 0, _, _, _, _, _ => none
 | k + 1, x0, x1, x5, x8, x9 => if x9 < x8 then (impl_connected.l1 k x0 x1 x5 x8 x9 x1 (x1.length : Int) 0) else (if 0 ≤ x0 then (some (x5 == (wrap64 ((shl .i64 1 x0) - 1)))) else (none))
def impl_connected.l1 : Nat → Int → List (S76) → Int → Int → Int → List (S76) → Int → Int → Option (Bool)
 | 0, _, _, _, _, _, _, _, _ => none
 | k + 1, x0, x1, x5, x8, x9, fV, o0, iK => if iK < o0 then (if 0 ≤ iK then (if iK < (fV.length : Int) then (if 0 ≤ ((rd_T76 fV iK).f0) then (if (Go.bits .and .i64 (shr .i64 x5 ((rd_T76 fV iK).f0)) 1) = 1 then (if 0 ≤ ((rd_T76 fV iK).f1) then (impl_connected.l1 k x0 x1 (Go.bits .or .i64 x5 (Go.bits .or .i64 (shl .i64 1 ((rd_T76 fV iK).f0)) (shl .i64 1 ((rd_T76 fV iK).f1)))) x8 x9 fV o0 (wrap64 (iK + 1))) else (none)) else (if 0 ≤ ((rd_T76 fV iK).f1) then (if (Go.bits .and .i64 (shr .i64 x5 ((rd_T76 fV iK).f1)) 1) = 1 then (impl_connected.l1 k x0 x1 (Go.bits .or .i64 x5 (Go.bits .or .i64 (shl .i64 1 ((rd_T76 fV iK).f0)) (shl .i64 1 ((rd_T76 fV iK).f1)))) x8 x9 fV o0 (wrap64 (iK + 1))) else (impl_connected.l1 k x0 x1 x5 x8 x9 fV o0 (wrap64 (iK + 1)))) else (none))) else (none)) else (none)) else (none)) else (impl_connected.l0 k x0 x1 x5 x8 (wrap64 (x9 + 1)))
end
def impl_connected.f (k : Nat) (a0 : Int) (l1 : List (S76)) : Option (Bool) := impl_connected.l0 k a0 l1 1 a0 0
theorem impl_connected.mono_l : ∀ k, (∀ y0 y1 y2 y3 y4, LeO (impl_connected.l0 k y0 y1 y2 y3 y4) (impl_connected.l0 (k + 1) y0 y1 y2 y3 y4)) ∧ (∀ y0 y1 y2 y3 y4 y5 y6 y7, LeO (impl_connected.l1 k y0 y1 y2 y3 y4 y5 y6 y7) (impl_connected.l1 (k + 1) y0 y1 y2 y3 y4 y5 y6 y7))
 | 0 => ⟨fun _ _ _ _ _ r h => by simp [impl_connected.l0] at h, fun _ _ _ _ _ _ _ _ r h => by simp [impl_connected.l1] at h⟩
 | k + 1 => by
  obtain ⟨ih0, ih1⟩ := impl_connected.mono_l k
  refine ⟨?_, ?_⟩
  ·intro y0 y1 y2 y3 y4
   unfold impl_connected.l0
   exact zm1
  ·intro y0 y1 y2 y3 y4 y5 y6 y7
   unfold impl_connected.l1
   exact zm1
theorem impl_connected.mono : ∀ a0 a1 k, LeO (impl_connected.f k a0 a1) (impl_connected.f (k + 1) a0 a1) := by
 intro a0 a1 k; obtain ⟨ih0, ih1⟩ := impl_connected.mono_l k; unfold impl_connected.f; exact zm1
theorem impl_connected.calls (k : Nat) (a0 : Int) (A1 : Option Addr) (c1 : Nat) (l1 : List (S76)) (r : Bool) (w : World) (hr1 : Kd.C k76 w A1 l1.length l1) (hc1 : l1.length ≤ c1) (h : impl_connected.f k a0 l1 = some r) :
  Calls Try.prog 76 #[.int .i64 a0, .slice A1 l1.length c1] w fun e w' => e = .returned (.bool r) ∧ Below w.heap.size w w' := by
 have hu76 := Try.underlying76; have HR1 := zK_ hr1; have HC1 := zK_ hc1; clear hr1 hc1; have HB := zK_ (Below.refl w.heap.size w); have H : (impl_connected.l0 k a0 l1 1 a0 0) = some r := h; clear h; have H' := zK_ H; clear H; go_enter Try.func76, Try.ntmps76; go_wp2; (repeat (go_quiet (fail); try go_wp2)); (go_loopg [5, 9] k (fun kq v5 v9 w' => ∃ (i8 : Int) (bU : Int), v5 = .int .i64 i8 ∧ v9 = .int .i64 bU ∧ Aside0 (impl_connected.l0 kq a0 l1 i8 a0 bU = some r) ∧ Aside0 (kq ≤ k) ∧ Aside0 (Below w.heap.size w w'))); case atStart => exact ⟨(1), (0), zz6, zz6, H', ⟨Nat.le_refl _⟩, ⟨zz2⟩⟩
 case round =>
  clear H'; (try clear c1); (try clear p2); obtain ⟨i8, bU, rfl, rfl, HA, HK1, HB⟩ := hrel
  cases gk with
  | zero => exact absurd HA.out (by simp [impl_connected.l0])
  | succ k1 =>
   have H := HA.out; clear HA; simp only [impl_connected.l0] at H; by_cases c3 : bU < a0; rotate_left
   ·rw [if_neg c3] at H; have jA := decide_eq_false c3; clear c3; by_cases c27 : 0 ≤ a0; rotate_left
    ·rw [if_neg c27] at H; exact absurd H (by simp)
    rw [if_pos c27] at H; have FF := eq_true c27; have Q0 : decide (0 ≤ a0) = true := decide_eq_true c27; clear c27; obtain ⟨rP, qT⟩ : ∃ j_ : Int, (shl .i64 1 a0) = j_ := ⟨_, rfl⟩; (replace H : (some (i8 == (wrap64 ((rP) - 1)))) = some r := by first | (rw [qT] at H; exact H) | (simp only [qT] at H ⊢; exact H)); have uD : (IntKind.i64.wrap (1 * 2 ^ min a0.toNat 64)) = rP := qT; have uC : a0 ≤ 64 → (IntKind.i64.wrap (1 * 2 ^ a0.toNat)) = rP := shl_small qT; (have LW : (IntKind.i64.wrap (2 ^ min a0.toNat 64)) = rP := by have h_ := uD; rw [Int.one_mul] at h_; exact h_); (have LV : a0 ≤ 64 → (IntKind.i64.wrap (2 ^ a0.toNat)) = rP := fun hle_ => by have h_ := uC hle_; rw [Int.one_mul] at h_; exact h_); have LT : (wrap64 (1 * 2 ^ min a0.toNat 64)) = rP := (i64_w _).symm.trans uD; (have LU : a0 ≤ 64 → (wrap64 (1 * 2 ^ a0.toNat)) = rP := fun h_ => (i64_w _).symm.trans (uC h_)); obtain rfl := Option.some.inj H; go_wp2; (repeat (go_quiet (fail); try go_wp2)); go_ret; exact ⟨by first | rfl | (simp [errW_none, errW_some] <;> rfl) | (simp only [← qT]; first | rfl | (simp [errW_none, errW_some] <;> rfl)) | (simp [*, errW_none, errW_some] <;> rfl), zz2⟩
   rw [if_pos c3] at H; have jA := decide_eq_true c3; clear c3; have H' := zK_ H; clear H; go_wp2; (repeat (go_quiet (fail); try go_wp2)); (go_loopg [5, 13] k1 (fun kq v5 v13 w' => ∃ (eH : Int) (bN : Int), v5 = .int .i64 eH ∧ v13 = .int .i64 bN ∧ Aside0 (impl_connected.l1 kq a0 l1 eH a0 bU l1 (l1.length : Int) bN = some r) ∧ Aside0 (kq ≤ k1) ∧ Aside0 (Below w.heap.size w w'))); case atStart => exact ⟨(i8), (0), zz6, zz6, H', ⟨Nat.le_refl _⟩, ⟨zz2⟩⟩
   case round =>
    clear H'; (try clear c1); (try clear p2); (try clear c3); (try clear jA); (try clear p2); obtain ⟨eH, bN, rfl, rfl, HA, HK2, HB⟩ := hrel
    cases gk with
    | zero => exact absurd HA.out (by simp [impl_connected.l1])
    | succ k2 =>
     have H := HA.out; clear HA; simp only [impl_connected.l1] at H; by_cases c4 : bN < (l1.length : Int); rotate_left
     ·rw [if_neg c4] at H; have iQ := decide_eq_false c4; clear c4; have H' := zK_ H; clear H; go_wp2; (repeat (go_quiet (fail); try go_wp2)); go_roundg k2; (case measure => have := HK1.out; have := HK2.out; omega); case rel => exact ⟨(eH), (wrap64 (bU + 1)), zz6, zz6, H', ⟨by have := HK1.out; have := HK2.out; omega⟩, ⟨zz2⟩⟩
     rw [if_pos c4] at H; have iQ := decide_eq_true c4; clear c4; by_cases c5 : 0 ≤ bN; rotate_left
     ·rw [if_neg c5] at H; exact absurd H (by simp)
     rw [if_pos c5] at H; have fX := decide_eq_true c5; clear c5; by_cases c6 : bN < (l1.length : Int); rotate_left
     ·rw [if_neg c6] at H; exact absurd H (by simp)
     rw [if_pos c6] at H; have i9 := decide_eq_true c6; clear c6; by_cases c7 : 0 ≤ ((rd_T76 l1 bN).f0); rotate_left
     ·rw [if_neg c7] at H; exact absurd H (by simp)
     rw [if_pos c7] at H; have iM := eq_true c7; have tS : decide (0 ≤ ((rd_T76 l1 bN).f0)) = true := decide_eq_true c7; clear c7; obtain ⟨sE, qP⟩ : ∃ j_ : Int, (shr .i64 eH ((rd_T76 l1 bN).f0)) = j_ := ⟨_, rfl⟩; (replace H : (if (Go.bits .and .i64 (sE) 1) = 1 then (if 0 ≤ ((rd_T76 l1 bN).f1) then (impl_connected.l1 k2 a0 l1 (Go.bits .or .i64 eH (Go.bits .or .i64 (shl .i64 1 ((rd_T76 l1 bN).f0)) (shl .i64 1 ((rd_T76 l1 bN).f1)))) a0 bU l1 (l1.length : Int) (wrap64 (bN + 1))) else (none)) else (if 0 ≤ ((rd_T76 l1 bN).f1) then (if (Go.bits .and .i64 (shr .i64 eH ((rd_T76 l1 bN).f1)) 1) = 1 then (impl_connected.l1 k2 a0 l1 (Go.bits .or .i64 eH (Go.bits .or .i64 (shl .i64 1 ((rd_T76 l1 bN).f0)) (shl .i64 1 ((rd_T76 l1 bN).f1)))) a0 bU l1 (l1.length : Int) (wrap64 (bN + 1))) else (impl_connected.l1 k2 a0 l1 eH a0 bU l1 (l1.length : Int) (wrap64 (bN + 1)))) else (none))) = some r := by first | (rw [qP] at H; exact H) | (simp only [qP] at H ⊢; exact H)); have BM : (eH / 2 ^ min ((rd_T76 l1 bN).f0).toNat 64) = sE := qP; have P5 : ((rd_T76 l1 bN).f0) ≤ 64 → (eH / 2 ^ ((rd_T76 l1 bN).f0).toNat) = sE := shr_small qP; by_cases c9 : (Go.bits .and .i64 (sE) 1) = 1
     ·rw [if_pos c9] at H; have lA : ((Go.bits .and .i64 (sE) 1) == 1) = true := beq_iff_eq.mpr c9; have zW : ((Go.bits .and .i64 (sE) 1) != 1) = false := bne_eq_false_iff_eq.mpr c9; clear c9; have g6 := eq_true (of_decide_eq_true zz4 : 0 ≤ ((rd_T76 l1 bN).f0)); obtain ⟨jL, kQ⟩ : ∃ j_ : Int, (shl .i64 1 ((rd_T76 l1 bN).f0)) = j_ := ⟨_, rfl⟩; (replace H : (if 0 ≤ ((rd_T76 l1 bN).f1) then (impl_connected.l1 k2 a0 l1 (Go.bits .or .i64 eH (Go.bits .or .i64 (jL) (shl .i64 1 ((rd_T76 l1 bN).f1)))) a0 bU l1 (l1.length : Int) (wrap64 (bN + 1))) else (none)) = some r := by first | (rw [kQ] at H; exact H) | (simp only [kQ] at H ⊢; exact H)); have nL : (IntKind.i64.wrap (1 * 2 ^ min ((rd_T76 l1 bN).f0).toNat 64)) = jL := kQ; have nK : ((rd_T76 l1 bN).f0) ≤ 64 → (IntKind.i64.wrap (1 * 2 ^ ((rd_T76 l1 bN).f0).toNat)) = jL := shl_small kQ; (have zB : (IntKind.i64.wrap (2 ^ min ((rd_T76 l1 bN).f0).toNat 64)) = jL := by have h_ := nL; rw [Int.one_mul] at h_; exact h_); (have zA : ((rd_T76 l1 bN).f0) ≤ 64 → (IntKind.i64.wrap (2 ^ ((rd_T76 l1 bN).f0).toNat)) = jL := fun hle_ => by have h_ := nK hle_; rw [Int.one_mul] at h_; exact h_); have yY : (wrap64 (1 * 2 ^ min ((rd_T76 l1 bN).f0).toNat 64)) = jL := (i64_w _).symm.trans nL; (have yZ : ((rd_T76 l1 bN).f0) ≤ 64 → (wrap64 (1 * 2 ^ ((rd_T76 l1 bN).f0).toNat)) = jL := fun h_ => (i64_w _).symm.trans (nK h_)); by_cases c12 : 0 ≤ ((rd_T76 l1 bN).f1); rotate_left
      ·rw [if_neg c12] at H; exact absurd H (by simp)
      rw [if_pos c12] at H; have mJ := eq_true c12; have u9 : decide (0 ≤ ((rd_T76 l1 bN).f1)) = true := decide_eq_true c12; clear c12; obtain ⟨qM, qW⟩ : ∃ j_ : Int, (shl .i64 1 ((rd_T76 l1 bN).f1)) = j_ := ⟨_, rfl⟩; (replace H : (impl_connected.l1 k2 a0 l1 (Go.bits .or .i64 eH (Go.bits .or .i64 (jL) (qM))) a0 bU l1 (l1.length : Int) (wrap64 (bN + 1))) = some r := by first | (rw [qW] at H; exact H) | (simp only [qW] at H ⊢; exact H)); have uM : (IntKind.i64.wrap (1 * 2 ^ min ((rd_T76 l1 bN).f1).toNat 64)) = qM := qW; have uL : ((rd_T76 l1 bN).f1) ≤ 64 → (IntKind.i64.wrap (1 * 2 ^ ((rd_T76 l1 bN).f1).toNat)) = qM := shl_small qW; (have MF : (IntKind.i64.wrap (2 ^ min ((rd_T76 l1 bN).f1).toNat 64)) = qM := by have h_ := uM; rw [Int.one_mul] at h_; exact h_); (have ME : ((rd_T76 l1 bN).f1) ≤ 64 → (IntKind.i64.wrap (2 ^ ((rd_T76 l1 bN).f1).toNat)) = qM := fun hle_ => by have h_ := uL hle_; rw [Int.one_mul] at h_; exact h_); have MC : (wrap64 (1 * 2 ^ min ((rd_T76 l1 bN).f1).toNat 64)) = qM := (i64_w _).symm.trans uM; (have MD : ((rd_T76 l1 bN).f1) ≤ 64 → (wrap64 (1 * 2 ^ ((rd_T76 l1 bN).f1).toNat)) = qM := fun h_ => (i64_w _).symm.trans (uL h_)); have H' := zK_ H; clear H; have p101 : 0 ≤ (bN : Int) := of_decide_eq_true zz4; have q101 : bN < (l1.length : Int) := of_decide_eq_true zz4; obtain ⟨f9, e101, b8, iB⟩ := at_T76 HR1.out bN p101 q101; cases e101; replace b8 := (HB.out.cell (World.block_lt_of_cell? w _ b8)).trans b8; replace iB := (HB.out.cell (World.block_lt_of_cell? w _ iB)).trans iB; replace p101 := eq_true p101; replace q101 := eq_true q101; (go_wp2_with (first | ((with_reducible refine gate_dst (N := 7) rfl ?_); refine box_event ?hg (N := 7) ?hd (cs := #[.int .i64 0, .int .i64 0]) (t := 76) ?hr ?_; (case hd => rfl); (case hg => rfl); (case hr => exact zz21); intro aW hg w14 hbox hb; have n_ := zA4 (below_step zz2 hb) hbox (zz18 : w.heap.size ≤ aW) (zz18 : w.heap.size ≤ aW); clear HB; obtain ⟨HB, aI, GW102, GE102⟩ := n_; clear hb hbox hg; have gP := zC20 aI; have gO := zC21 aI; have gI := blk_frozen aI.out 0; have gH := blk_frozen aI.out 1))); (repeat (go_quiet (first | ((with_reducible refine gate_dst (N := 7) rfl ?_); refine box_event ?hg (N := 7) ?hd (cs := #[.int .i64 0, .int .i64 0]) (t := 76) ?hr ?_; (case hd => rfl); (case hg => rfl); (case hr => exact zz21); intro aW hg w14 hbox hb; have n_ := zA4 (below_step zz2 hb) hbox (zz18 : w.heap.size ≤ aW) (zz18 : w.heap.size ≤ aW); clear HB; obtain ⟨HB, aI, GW102, GE102⟩ := n_; clear hb hbox hg; have gP := zC20 aI; have gO := zC21 aI; have gI := blk_frozen aI.out 0; have gH := blk_frozen aI.out 1)); try go_wp2_with (first | ((with_reducible refine gate_dst (N := 7) rfl ?_); refine box_event ?hg (N := 7) ?hd (cs := #[.int .i64 0, .int .i64 0]) (t := 76) ?hr ?_; (case hd => rfl); (case hg => rfl); (case hr => exact zz21); intro aW hg w14 hbox hb; have n_ := zA4 (below_step zz2 hb) hbox (zz18 : w.heap.size ≤ aW) (zz18 : w.heap.size ≤ aW); clear HB; obtain ⟨HB, aI, GW102, GE102⟩ := n_; clear hb hbox hg; have gP := zC20 aI; have gO := zC21 aI; have gI := blk_frozen aI.out 0; have gH := blk_frozen aI.out 1)))); go_roundg k2; (case measure => have := HK1.out; have := HK2.out; omega); case rel => exact ⟨(Go.bits .or .i64 eH (Go.bits .or .i64 (jL) (qM))), (wrap64 (bN + 1)), (by first | rfl | (simp; done) | (simp only [← kQ, ← qW] <;> (first | rfl | simp)) | (simp [*]; done)), zz6, H', ⟨by have := HK1.out; have := HK2.out; omega⟩, ⟨zz122⟩⟩
     rw [if_neg c9] at H; have lA : ((Go.bits .and .i64 (sE) 1) == 1) = false := beq_eq_false_iff_ne.mpr c9; have zW : ((Go.bits .and .i64 (sE) 1) != 1) = true := bne_iff_ne.mpr c9; by_cases c16 : 0 ≤ ((rd_T76 l1 bN).f1); rotate_left
     ·rw [if_neg c16] at H; exact absurd H (by simp)
     rw [if_pos c16] at H; have kD := eq_true c16; have yK : decide (0 ≤ ((rd_T76 l1 bN).f1)) = true := decide_eq_true c16; clear c16; obtain ⟨i5, jY⟩ : ∃ j_ : Int, (shr .i64 eH ((rd_T76 l1 bN).f1)) = j_ := ⟨_, rfl⟩; (replace H : (if (Go.bits .and .i64 (i5) 1) = 1 then (impl_connected.l1 k2 a0 l1 (Go.bits .or .i64 eH (Go.bits .or .i64 (shl .i64 1 ((rd_T76 l1 bN).f0)) (shl .i64 1 ((rd_T76 l1 bN).f1)))) a0 bU l1 (l1.length : Int) (wrap64 (bN + 1))) else (impl_connected.l1 k2 a0 l1 eH a0 bU l1 (l1.length : Int) (wrap64 (bN + 1)))) = some r := by first | (rw [jY] at H; exact H) | (simp only [jY] at H ⊢; exact H)); have pC : (eH / 2 ^ min ((rd_T76 l1 bN).f1).toNat 64) = i5 := jY; have rT : ((rd_T76 l1 bN).f1) ≤ 64 → (eH / 2 ^ ((rd_T76 l1 bN).f1).toNat) = i5 := shr_small jY; by_cases c18 : (Go.bits .and .i64 (i5) 1) = 1; rotate_left
     ·rw [if_neg c18] at H; have nC : ((Go.bits .and .i64 (i5) 1) == 1) = false := beq_eq_false_iff_ne.mpr c18; have nB : ((Go.bits .and .i64 (i5) 1) != 1) = true := bne_iff_ne.mpr c18; have H' := zK_ H; clear H; have p101 : 0 ≤ (bN : Int) := of_decide_eq_true zz4; have q101 : bN < (l1.length : Int) := of_decide_eq_true zz4; obtain ⟨f9, e101, b8, iB⟩ := at_T76 HR1.out bN p101 q101; cases e101; replace b8 := (HB.out.cell (World.block_lt_of_cell? w _ b8)).trans b8; replace iB := (HB.out.cell (World.block_lt_of_cell? w _ iB)).trans iB; replace p101 := eq_true p101; replace q101 := eq_true q101; (go_wp2_with (first | ((with_reducible refine gate_dst (N := 7) rfl ?_); refine box_event ?hg (N := 7) ?hd (cs := #[.int .i64 0, .int .i64 0]) (t := 76) ?hr ?_; (case hd => rfl); (case hg => rfl); (case hr => exact zz21); intro aW hg w25 hbox hb; have n_ := zA4 (below_step zz2 hb) hbox (zz18 : w.heap.size ≤ aW) (zz18 : w.heap.size ≤ aW); clear HB; obtain ⟨HB, aI, GW102, GE102⟩ := n_; clear hb hbox hg; have pY := zC20 aI; have pX := zC21 aI; have pM := blk_frozen aI.out 0; have pL := blk_frozen aI.out 1))); (repeat (go_quiet (first | ((with_reducible refine gate_dst (N := 7) rfl ?_); refine box_event ?hg (N := 7) ?hd (cs := #[.int .i64 0, .int .i64 0]) (t := 76) ?hr ?_; (case hd => rfl); (case hg => rfl); (case hr => exact zz21); intro aW hg w25 hbox hb; have n_ := zA4 (below_step zz2 hb) hbox (zz18 : w.heap.size ≤ aW) (zz18 : w.heap.size ≤ aW); clear HB; obtain ⟨HB, aI, GW102, GE102⟩ := n_; clear hb hbox hg; have pY := zC20 aI; have pX := zC21 aI; have pM := blk_frozen aI.out 0; have pL := blk_frozen aI.out 1)); try go_wp2_with (first | ((with_reducible refine gate_dst (N := 7) rfl ?_); refine box_event ?hg (N := 7) ?hd (cs := #[.int .i64 0, .int .i64 0]) (t := 76) ?hr ?_; (case hd => rfl); (case hg => rfl); (case hr => exact zz21); intro aW hg w25 hbox hb; have n_ := zA4 (below_step zz2 hb) hbox (zz18 : w.heap.size ≤ aW) (zz18 : w.heap.size ≤ aW); clear HB; obtain ⟨HB, aI, GW102, GE102⟩ := n_; clear hb hbox hg; have pY := zC20 aI; have pX := zC21 aI; have pM := blk_frozen aI.out 0; have pL := blk_frozen aI.out 1)))); go_roundg k2; (case measure => have := HK1.out; have := HK2.out; omega); case rel => exact ⟨(eH), (wrap64 (bN + 1)), zz6, zz6, H', ⟨by have := HK1.out; have := HK2.out; omega⟩, ⟨zz122⟩⟩
     rw [if_pos c18] at H; have nC : ((Go.bits .and .i64 (i5) 1) == 1) = true := beq_iff_eq.mpr c18; have nB : ((Go.bits .and .i64 (i5) 1) != 1) = false := bne_eq_false_iff_eq.mpr c18; clear c18; have yH := eq_true (of_decide_eq_true zz4 : 0 ≤ ((rd_T76 l1 bN).f0)); obtain ⟨pB, qV⟩ : ∃ j_ : Int, (shl .i64 1 ((rd_T76 l1 bN).f0)) = j_ := ⟨_, rfl⟩; (replace H : (impl_connected.l1 k2 a0 l1 (Go.bits .or .i64 eH (Go.bits .or .i64 (pB) (shl .i64 1 ((rd_T76 l1 bN).f1)))) a0 bU l1 (l1.length : Int) (wrap64 (bN + 1))) = some r := by first | (rw [qV] at H; exact H) | (simp only [qV] at H ⊢; exact H)); have uJ : (IntKind.i64.wrap (1 * 2 ^ min ((rd_T76 l1 bN).f0).toNat 64)) = pB := qV; have uI : ((rd_T76 l1 bN).f0) ≤ 64 → (IntKind.i64.wrap (1 * 2 ^ ((rd_T76 l1 bN).f0).toNat)) = pB := shl_small qV; (have L6 : (IntKind.i64.wrap (2 ^ min ((rd_T76 l1 bN).f0).toNat 64)) = pB := by have h_ := uJ; rw [Int.one_mul] at h_; exact h_); (have L5 : ((rd_T76 l1 bN).f0) ≤ 64 → (IntKind.i64.wrap (2 ^ ((rd_T76 l1 bN).f0).toNat)) = pB := fun hle_ => by have h_ := uI hle_; rw [Int.one_mul] at h_; exact h_); have L3 : (wrap64 (1 * 2 ^ min ((rd_T76 l1 bN).f0).toNat 64)) = pB := (i64_w _).symm.trans uJ; (have L4 : ((rd_T76 l1 bN).f0) ≤ 64 → (wrap64 (1 * 2 ^ ((rd_T76 l1 bN).f0).toNat)) = pB := fun h_ => (i64_w _).symm.trans (uI h_)); have oM := eq_true (of_decide_eq_true zz4 : 0 ≤ ((rd_T76 l1 bN).f1)); obtain ⟨qL, qU⟩ : ∃ j_ : Int, (shl .i64 1 ((rd_T76 l1 bN).f1)) = j_ := ⟨_, rfl⟩; (replace H : (impl_connected.l1 k2 a0 l1 (Go.bits .or .i64 eH (Go.bits .or .i64 (pB) (qL))) a0 bU l1 (l1.length : Int) (wrap64 (bN + 1))) = some r := by first | (rw [qU] at H; exact H) | (simp only [qU] at H ⊢; exact H)); have uH : (IntKind.i64.wrap (1 * 2 ^ min ((rd_T76 l1 bN).f1).toNat 64)) = qL := qU; have uG : ((rd_T76 l1 bN).f1) ≤ 64 → (IntKind.i64.wrap (1 * 2 ^ ((rd_T76 l1 bN).f1).toNat)) = qL := shl_small qU; (have L2 : (IntKind.i64.wrap (2 ^ min ((rd_T76 l1 bN).f1).toNat 64)) = qL := by have h_ := uH; rw [Int.one_mul] at h_; exact h_); (have L1 : ((rd_T76 l1 bN).f1) ≤ 64 → (IntKind.i64.wrap (2 ^ ((rd_T76 l1 bN).f1).toNat)) = qL := fun hle_ => by have h_ := uG hle_; rw [Int.one_mul] at h_; exact h_); have LZ : (wrap64 (1 * 2 ^ min ((rd_T76 l1 bN).f1).toNat 64)) = qL := (i64_w _).symm.trans uH; (have L0 : ((rd_T76 l1 bN).f1) ≤ 64 → (wrap64 (1 * 2 ^ ((rd_T76 l1 bN).f1).toNat)) = qL := fun h_ => (i64_w _).symm.trans (uG h_)); have H' := zK_ H; clear H; have p101 : 0 ≤ (bN : Int) := of_decide_eq_true zz4; have q101 : bN < (l1.length : Int) := of_decide_eq_true zz4; obtain ⟨f9, e101, b8, iB⟩ := at_T76 HR1.out bN p101 q101; cases e101; replace b8 := (HB.out.cell (World.block_lt_of_cell? w _ b8)).trans b8; replace iB := (HB.out.cell (World.block_lt_of_cell? w _ iB)).trans iB; replace p101 := eq_true p101; replace q101 := eq_true q101; (go_wp2_with (first | ((with_reducible refine gate_dst (N := 7) rfl ?_); refine box_event ?hg (N := 7) ?hd (cs := #[.int .i64 0, .int .i64 0]) (t := 76) ?hr ?_; (case hd => rfl); (case hg => rfl); (case hr => exact zz21); intro aW hg w23 hbox hb; have n_ := zA4 (below_step zz2 hb) hbox (zz18 : w.heap.size ≤ aW) (zz18 : w.heap.size ≤ aW); clear HB; obtain ⟨HB, aI, GW102, GE102⟩ := n_; clear hb hbox hg; have l7 := zC20 aI; have l6 := zC21 aI; have lS := blk_frozen aI.out 0; have lR := blk_frozen aI.out 1))); (repeat (go_quiet (first | ((with_reducible refine gate_dst (N := 7) rfl ?_); refine box_event ?hg (N := 7) ?hd (cs := #[.int .i64 0, .int .i64 0]) (t := 76) ?hr ?_; (case hd => rfl); (case hg => rfl); (case hr => exact zz21); intro aW hg w23 hbox hb; have n_ := zA4 (below_step zz2 hb) hbox (zz18 : w.heap.size ≤ aW) (zz18 : w.heap.size ≤ aW); clear HB; obtain ⟨HB, aI, GW102, GE102⟩ := n_; clear hb hbox hg; have l7 := zC20 aI; have l6 := zC21 aI; have lS := blk_frozen aI.out 0; have lR := blk_frozen aI.out 1)); try go_wp2_with (first | ((with_reducible refine gate_dst (N := 7) rfl ?_); refine box_event ?hg (N := 7) ?hd (cs := #[.int .i64 0, .int .i64 0]) (t := 76) ?hr ?_; (case hd => rfl); (case hg => rfl); (case hr => exact zz21); intro aW hg w23 hbox hb; have n_ := zA4 (below_step zz2 hb) hbox (zz18 : w.heap.size ≤ aW) (zz18 : w.heap.size ≤ aW); clear HB; obtain ⟨HB, aI, GW102, GE102⟩ := n_; clear hb hbox hg; have l7 := zC20 aI; have l6 := zC21 aI; have lS := blk_frozen aI.out 0; have lR := blk_frozen aI.out 1)))); go_roundg k2; (case measure => have := HK1.out; have := HK2.out; omega); case rel => exact ⟨(Go.bits .or .i64 eH (Go.bits .or .i64 (pB) (qL))), (wrap64 (bN + 1)), (by first | rfl | (simp; done) | (simp only [← qV, ← qU] <;> (first | rfl | simp)) | (simp [*]; done)), zz6, H', ⟨by have := HK1.out; have := HK2.out; omega⟩, ⟨zz122⟩⟩
end Go.Proofs.Ytkcbinohpdhbgaa.P
end

section
namespace Go.Proofs.Ytkcbinohpdhbgaa.Cf
set_option linter.unusedVariables false
set_option linter.unusedSimpArgs false
open Go.RowKit Go.Proofs.YtkcbinohpdhbgaaW.PrintWords
def Ep {α : Type} (g : Nat → Option α) (Q : α → Prop) : Prop := ∃ r, Q r ∧ ∃ K, ∀ k, K ≤ k → g k = some r
theorem Ep.now {α : Type} {Q : α → Prop} {r : α} (h : Q r) : Ep (fun _ => some r) Q := ⟨r, h, 0, fun _ _ => rfl⟩
theorem Ep.mono {α : Type} {g : Nat → Option α} {P Q : α → Prop} (h : Ep g P) (hpq : ∀ r, P r → Q r) : Ep g Q := by
 obtain ⟨r, hr, K, hK⟩ := h
 exact ⟨r, hpq r hr, K, hK⟩
theorem Ep.step {α : Type} {g f : Nat → Option α} {Q : α → Prop} (h : ∀ k, g (k + 1) = f k) (k : Ep f Q) : Ep g Q := by
 obtain ⟨r, hr, K, hK⟩ := k
 refine ⟨r, hr, K + 1, fun k hk => ?_⟩
 obtain ⟨m, rfl⟩ : ∃ m, k = m + 1 := ⟨k - 1, by omega⟩
 rw [h m]
 exact hK m (by omega)
theorem Ep.up {α : Type} {g : Nat → Option α} {Q : α → Prop} (h : Ep (fun k => g (k + 1)) Q) : Ep g Q := Ep.step (fun _ => rfl) h
theorem Ep.congr {α : Type} {g f : Nat → Option α} {Q : α → Prop} (h : ∀ k, g k = f k) (k : Ep f Q) : Ep g Q := by
 obtain ⟨r, hr, K, hK⟩ := k
 exact ⟨r, hr, K, fun k hk => (h k).trans (hK k hk)⟩
theorem Ep.bind {α β : Type} {g : Nat → Option α} {f : Nat → α → Option β} {P : α → Prop} {Q : β → Prop} (h : Ep g P) (k : ∀ a, P a → Ep (fun n => f n a) Q) : Ep (fun n => (g n).bind (f n)) Q := by
 obtain ⟨r, hr, K, hK⟩ := h
 obtain ⟨q, hq, L, hL⟩ := k r hr
 refine ⟨q, hq, max K L, fun k hk => ?_⟩
 show (g k).bind (f k) = some q
 rw [hK k (by omega)]
 exact hL k (by omega)
theorem Ep.bind0 {α β : Type} {g : Option α} {f : Nat → α → Option β} {a : α} {Q : β → Prop} (h : g = some a) (k : Ep (fun n => f n a) Q) : Ep (fun n => g.bind (f n)) Q := by
 subst h
 exact k
theorem Ep.ite {α : Type} {c : Prop} [Decidable c] {f g : Nat → Option α} {Q : α → Prop} (h : c → Ep f Q) (k : ¬ c → Ep g Q) : Ep (fun n => if c then f n else g n) Q := by
 by_cases hc : c
 ·simp only [hc, if_true]
  exact h hc
 ·simp only [hc, if_false]
  exact k hc
theorem Ep.pos {α : Type} {c : Prop} [Decidable c] {f g : Nat → Option α} {Q : α → Prop} (hc : c) (h : Ep f Q) : Ep (fun n => if c then f n else g n) Q := Ep.ite (fun _ => h) (fun k => absurd hc k)
theorem Ep.neg {α : Type} {c : Prop} [Decidable c] {f g : Nat → Option α} {Q : α → Prop} (hc : ¬ c) (h : Ep g Q) : Ep (fun n => if c then f n else g n) Q := Ep.ite (fun k => absurd k hc) (fun _ => h)
theorem Ep.rounds {α : Type} {g : Nat → Option α} {r : α} (h : Ep g (· = r)) : ∃ k, g k = some r := by
 obtain ⟨q, rfl, K, hK⟩ := h
 exact ⟨K, hK K (Nat.le_refl _)⟩
def Wf (k : IntKind) (x : Int) : Prop := (Lit.int k x).wf = true
theorem Wf.i64 {x : Int} (h : Wf .i64 x) : -9223372036854775808 ≤ x ∧ x ≤ 9223372036854775807 := by
 simpa [Wf, Lit.wf, IntKind.min, IntKind.max, IntKind.signed, IntKind.bits] using h
theorem Wf.u8 {x : Int} (h : Wf .u8 x) : 0 ≤ x ∧ x ≤ 255 := by
 simpa [Wf, Lit.wf, IntKind.min, IntKind.max, IntKind.signed, IntKind.bits] using h
def SL {α : Type} (Q : α → Prop) (l : List α) : Prop := l.length ≤ 9223372036854775807 ∧ ∀ x ∈ l, Q x
theorem wrap_id {x : Int} (h0 : -9223372036854775808 ≤ x) (h1 : x ≤ 9223372036854775807) : wrap64 x = x := by
 unfold wrap64
 omega
theorem rd_nat (xs : List Int) (i : Nat) : rd xs (i : Int) = xs.getD i 0 := by simp [rd]
theorem rd_get {xs : List Int} {i : Nat} (h : i < xs.length) : rd xs (i : Int) = xs[i] := by simp [rd, List.getD, h]
end Go.Proofs.Ytkcbinohpdhbgaa.Cf
end

section
namespace Go.Proofs.Ytkcbinohpdhbgaa.Cf
set_option linter.unusedVariables false
set_option linter.unusedSimpArgs false
def Adj (es : List E) (a b : Int) : Prop := ∃ e ∈ es, (e.f0 = a ∧ e.f1 = b) ∨ (e.f0 = b ∧ e.f1 = a)
theorem Adj.symm {es : List E} {a b : Int} (h : Adj es a b) : Adj es b a := by
 obtain ⟨e, he, h⟩ := h
 exact ⟨e, he, h.symm⟩
inductive Conn (es : List E) (a : Int) : Int → Prop
 | refl : Conn es a a
 | tail {b c : Int} : Conn es a b → Adj es b c → Conn es a c
theorem Conn.trans {es : List E} {a b c : Int} (h : Conn es a b) (k : Conn es b c) : Conn es a c := by
 induction k with
 | refl => exact h
 | tail _ hadj ih => exact ih.tail hadj
theorem Conn.one {es : List E} {a b : Int} (h : Adj es a b) : Conn es a b := Conn.refl.tail h
theorem Conn.symm {es : List E} {a b : Int} (h : Conn es a b) : Conn es b a := by
 induction h with
 | refl => exact .refl
 | tail _ hadj ih => exact (Conn.one hadj.symm).trans ih
theorem Conn.sub {es fs : List E} (hs : ∀ e ∈ es, e ∈ fs) {a b : Int} (h : Conn es a b) : Conn fs a b := by
 induction h with
 | refl => exact .refl
 | tail _ hadj ih =>
  obtain ⟨e, he, hx⟩ := hadj
  exact ih.tail ⟨e, hs e he, hx⟩
theorem Conn.closed {es : List E} {S : Int → Prop} (hS : ∀ a b, S a → Adj es a b → S b) {a b : Int} (h : Conn es a b) (ha : S a) : S b := by
 induction h with
 | refl => exact ha
 | tail _ hadj ih => exact hS _ _ ih hadj
def EOk (n : Int) (e : E) : Prop := 0 ≤ e.f0 ∧ e.f0 < e.f1 ∧ e.f1 < n
instance decEOk (n : Int) (e : E) : Decidable (EOk n e) := by unfold EOk; infer_instance
def EsOk (n : Int) (es : List E) : Prop := 1 ≤ n ∧ n ≤ 6 ∧ es.length ≤ 12 ∧ ∀ e ∈ es, EOk n e
instance decEsOk (n : Int) (es : List E) : Decidable (EsOk n es) := by unfold EsOk; infer_instance
def leE (a b : E) : Prop := a.f0 < b.f0 ∨ (a.f0 = b.f0 ∧ a.f1 ≤ b.f1)
instance decLeE (a b : E) : Decidable (leE a b) := by unfold leE; infer_instance
def Sorted (es : List E) : Prop := ∀ i, (h : i + 1 < es.length) → leE es[i] es[i + 1]
def Joined (n : Int) (es : List E) : Prop := ∀ v, 0 ≤ v → v < n → Conn es 0 v
def GOk (n : Int) (es : List E) : Prop := EsOk n es ∧ Sorted es ∧ Joined n es
instance decSorted (es : List E) : Decidable (Sorted es) := decidable_of_iff (∀ i, (h : i < es.length - 1) → leE (es[i]'(by omega)) (es[i + 1]'(by omega))) ⟨fun h i hi => h i (by omega), fun h i hi => h i (by omega)⟩
theorem EsOk.adj {n : Int} {es : List E} (h : ∀ e ∈ es, EOk n e) {a b : Int} (hab : Adj es a b) : 0 ≤ b ∧ b < n := by
 obtain ⟨e, he, hx⟩ := hab
 have := h e he
 unfold EOk at this
 omega
def stepM (m : Nat) (e : E) : Nat := if m.testBit e.f0.toNat || m.testBit e.f1.toNat then m ||| (2 ^ e.f0.toNat ||| 2 ^ e.f1.toNat) else m
def roundM (es : List E) (m : Nat) : Nat := es.foldl stepM m
def timesM (es : List E) : Nat → Nat → Nat
 | 0, m => m
 | k + 1, m => timesM es k (roundM es m)
theorem testBit_step {m : Nat} {e : E} {i : Nat} : (stepM m e).testBit i = (m.testBit i || ((m.testBit e.f0.toNat || m.testBit e.f1.toNat) && (i == e.f0.toNat || i == e.f1.toNat))) := by
 unfold stepM
 by_cases h : (m.testBit e.f0.toNat || m.testBit e.f1.toNat) = true
 ·rw [if_pos h, h]
  simp only [Nat.testBit_or, Nat.testBit_two_pow, Bool.true_and]
  congr 1
  rw [Bool.eq_iff_iff]
  simp only [Bool.or_eq_true, decide_eq_true_eq, beq_iff_eq]
  omega
 ·rw [if_neg h]
  simp only [Bool.not_eq_true] at h
  rw [h]
  simp
theorem step_mono {m : Nat} {e : E} {i : Nat} (h : m.testBit i = true) : (stepM m e).testBit i = true := by rw [testBit_step, h]; rfl
theorem round_mono (es : List E) : ∀ {m : Nat} {i : Nat}, m.testBit i = true → (roundM es m).testBit i = true := by
 induction es with
 | nil => intro m i h; exact h
 | cons e r ih => intro m i h; exact ih (step_mono h)
theorem times_mono (es : List E) : ∀ (k : Nat) {m : Nat} {i : Nat}, m.testBit i = true → (timesM es k m).testBit i = true
 | 0, _, _, h => h
 | k + 1, _, _, h => times_mono es k (round_mono es h)
def MOk (es : List E) (n : Int) (m : Nat) : Prop := ∀ i : Nat, m.testBit i = true → (i : Int) < n ∧ Conn es 0 i
theorem step_ok {es : List E} {n : Int} {m : Nat} {e : E} (he : e ∈ es) (hk : EOk n e) (h : MOk es n m) : MOk es n (stepM m e) := by
 intro i hi
 rw [testBit_step] at hi
 simp only [Bool.or_eq_true, Bool.and_eq_true, beq_iff_eq] at hi
 unfold EOk at hk
 have e0 : ((e.f0.toNat : Nat) : Int) = e.f0 := by omega
 have e1 : ((e.f1.toNat : Nat) : Int) = e.f1 := by omega
 rcases hi with hi | ⟨hm, hi⟩
 ·exact h i hi
 ·have key : Conn es 0 e.f0 ∧ Conn es 0 e.f1 := by
   rcases hm with hm | hm
   ·have := (h _ hm).2
    rw [e0] at this
    exact ⟨this, this.tail ⟨e, he, .inl ⟨rfl, rfl⟩⟩⟩
   ·have := (h _ hm).2
    rw [e1] at this
    exact ⟨this.tail ⟨e, he, .inr ⟨rfl, rfl⟩⟩, this⟩
  rcases hi with hi | hi
  ·subst hi
   rw [e0]
   exact ⟨by omega, key.1⟩
  ·subst hi
   rw [e1]
   exact ⟨by omega, key.2⟩
theorem round_ok {es : List E} {n : Int} (hes : ∀ e ∈ es, EOk n e) : ∀ (fs : List E), (∀ e ∈ fs, e ∈ es) → ∀ {m : Nat}, MOk es n m → MOk es n (roundM fs m) := by
 intro fs
 induction fs with
 | nil => intro _ m h; exact h
 | cons e r ih =>
  intro hs m h
  have he := hs e (List.mem_cons_self)
  exact ih (fun x hx => hs x (List.mem_cons_of_mem _ hx)) (step_ok he (hes e he) h)
theorem times_ok {es : List E} {n : Int} (hes : ∀ e ∈ es, EOk n e) : ∀ (k : Nat) {m : Nat}, MOk es n m → MOk es n (timesM es k m)
 | 0, _, h => h
 | k + 1, _, h => times_ok hes k (round_ok hes es (fun _ h => h) h)
def cnt (n : Nat) (m : Nat) : Nat := (List.range n).countP (m.testBit ·)
theorem cnt_le (n m : Nat) : cnt n m ≤ n := by
 unfold cnt
 have := List.countP_le_length (p := fun i => m.testBit i) (l := List.range n)
 simpa using this
theorem countP_lt {α : Type} {p q : α → Bool} : ∀ {l : List α}, (∀ x ∈ l, p x = true → q x = true) → (∃ x ∈ l, p x = false ∧ q x = true) → l.countP p < l.countP q
 | [], _, h => by obtain ⟨x, hx, _⟩ := h; cases hx
 | y :: r, hpq, h => by
  have hle : r.countP p ≤ r.countP q := List.countP_mono_left (fun x hx => hpq x (List.mem_cons_of_mem _ hx))
  simp only [List.countP_cons]
  by_cases hy : p y = false ∧ q y = true
  ·rw [hy.1, hy.2]
   simp
   omega
  ·have hr : r.countP p < r.countP q := by
    apply countP_lt (fun x hx => hpq x (List.mem_cons_of_mem _ hx))
    obtain ⟨x, hx, h1⟩ := h
    rcases List.mem_cons.1 hx with rfl | hx
    ·exact absurd h1 hy
    ·exact ⟨x, hx, h1⟩
   have h2 := hpq y List.mem_cons_self
   by_cases hp : p y = true
   ·rw [hp, h2 hp]
    simp
    omega
   ·simp only [hp, if_false, Bool.not_eq_true] at *
    simp
    split <;> omega
theorem cnt_lt {n m m' : Nat} (h : ∀ i, m.testBit i = true → m'.testBit i = true) (hx : ∃ i, i < n ∧ m.testBit i = false ∧ m'.testBit i = true) : cnt n m < cnt n m' := by
 obtain ⟨i, hi, h1⟩ := hx
 exact countP_lt (fun x _ => h x) ⟨i, List.mem_range.2 hi, h1⟩
theorem round_fix_step {es : List E} : ∀ (fs : List E) {m : Nat}, (∀ i, (roundM fs m).testBit i = true → m.testBit i = true) → ∀ e ∈ fs, m.testBit e.f0.toNat = m.testBit e.f1.toNat := by
 intro fs
 induction fs with
 | nil => intro m _ e he; cases he
 | cons a r ih =>
  intro m h e he
  have hst : ∀ i, (stepM m a).testBit i = true → m.testBit i = true := fun i hi => h i (round_mono r hi)
  have heq : stepM m a = m := by
   apply Nat.eq_of_testBit_eq
   intro i
   rw [Bool.eq_iff_iff]
   exact ⟨hst i, step_mono⟩
  rcases List.mem_cons.1 he with rfl | he
  ·have h0 := hst e.f0.toNat
   have h1 := hst e.f1.toNat
   rw [testBit_step] at h0 h1
   simp only [beq_self_eq_true, Bool.true_or, Bool.or_true, Bool.and_true, Bool.or_eq_true] at h0 h1
   rw [Bool.eq_iff_iff]
   exact ⟨fun hx => h1 (.inr (.inl hx)), fun hx => h0 (.inr (.inr hx))⟩
  ·have : roundM (a :: r) m = roundM r m := by show roundM r (stepM m a) = _; rw [heq]
   exact ih (fun i hi => h i (by rw [this]; exact hi)) e he
theorem closed_of_fix {es : List E} {n : Int} (hes : ∀ e ∈ es, EOk n e) {m : Nat} (h : ∀ i, (roundM es m).testBit i = true → m.testBit i = true) (h0 : m.testBit 0 = true) (i : Nat) (hi : Conn es 0 i) : m.testBit i = true := by
 have hf := round_fix_step (es := es) es h
 have key : ∀ v : Int, Conn es 0 v → 0 ≤ v ∧ m.testBit v.toNat = true := by
  intro v hv
  refine hv.closed (S := fun v => 0 ≤ v ∧ m.testBit v.toNat = true) ?_ ⟨by omega, h0⟩
  rintro a b ⟨ha, hb⟩ ⟨e, he, hx⟩
  have hk := hes e he
  unfold EOk at hk
  rcases hx with ⟨h1, h2⟩ | ⟨h1, h2⟩
  ·subst h1; subst h2
   exact ⟨by omega, by rw [← hf e he]; exact hb⟩
  ·subst h1; subst h2
   exact ⟨by omega, by rw [hf e he]; exact hb⟩
 have := (key i hi).2
 simpa using this
theorem times_grow {es : List E} {n : Nat} (hes : ∀ e ∈ es, EOk n e) : ∀ (k : Nat) {m : Nat}, MOk es n m → m.testBit 0 = true →
  (∀ i : Nat, Conn es 0 i → (timesM es k m).testBit i = true) ∨ k + cnt n m ≤ cnt n (timesM es k m)
 | 0, m, _, _ => .inr (by simp [timesM])
 | k + 1, m, hm, h0 => by
  by_cases hfix : ∀ i, (roundM es m).testBit i = true → m.testBit i = true
  ·left
   intro i hi
   exact times_mono es (k + 1) (closed_of_fix hes hfix h0 i hi)
  ·obtain ⟨i, hi⟩ := Classical.not_forall.1 hfix
   have hi1 : (roundM es m).testBit i = true := Classical.byContradiction fun hc => hi (fun x => absurd x hc)
   have hi2 : m.testBit i = false := by
    cases hb : m.testBit i with
    | false => rfl
    | true => exact absurd (fun _ => hb) hi
   have hok := round_ok hes es (fun _ h => h) hm
   have hlt : cnt n m < cnt n (roundM es m) := cnt_lt (fun j hj => round_mono es hj) ⟨i, by have := (hok i hi1).1; omega, hi2, hi1⟩
   rcases times_grow hes k hok (round_mono es h0) with h | h
   ·exact .inl h
   ·right
    show k + 1 + _ ≤ cnt n (timesM es k (roundM es m))
    omega
theorem cnt_full {n m : Nat} (h : n ≤ cnt n m) : ∀ i, i < n → m.testBit i = true := by
 intro i hi
 apply Classical.byContradiction
 intro hc
 have hc' : m.testBit i = false := by simpa using hc
 have : cnt n m < cnt n (2 ^ n - 1) := by
  refine countP_lt (fun x hx _ => ?_) ⟨i, List.mem_range.2 hi, hc', ?_⟩
  ·rw [Nat.testBit_two_pow_sub_one]; simpa using hx
  ·rw [Nat.testBit_two_pow_sub_one]; simpa using hi
 have := cnt_le n (2 ^ n - 1)
 omega
theorem times_joined {es : List E} {n : Nat} (h1 : 1 ≤ n) (hes : ∀ e ∈ es, EOk n e) : timesM es n 1 = 2 ^ n - 1 ↔ Joined n es := by
 have hm1 : MOk es n 1 := by
  intro i hi
  have : i = 0 := by simpa [Nat.testBit_one_eq_true_iff_self_eq_zero] using hi
  subst this
  exact ⟨by omega, .refl⟩
 have h0 : (1 : Nat).testBit 0 = true := by decide
 have hok := times_ok hes n hm1
 constructor
 ·intro h v hv0 hvn
  have := hok v.toNat (by rw [h, Nat.testBit_two_pow_sub_one]; simp; omega)
  have e : ((v.toNat : Nat) : Int) = v := by omega
  rw [e] at this
  exact this.2
 ·intro hj
  have hall : ∀ i, i < n → (timesM es n 1).testBit i = true := by
   rcases times_grow hes n hm1 h0 with h | h
   ·exact fun i hi => h i (hj i (by omega) (by omega))
   ·have : n ≤ cnt n (timesM es n 1) := by omega
    exact cnt_full this
  apply Nat.eq_of_testBit_eq
  intro i
  rw [Nat.testBit_two_pow_sub_one, Bool.eq_iff_iff]
  simp only [decide_eq_true_eq]
  refine ⟨fun h => ?_, fun h => hall i h⟩
  have := (hok i h).1
  omega
def gOk (n : Int) (es : List E) : Bool := decide (EsOk n es) && (decide (Sorted es) && decide (timesM es n.toNat 1 = 2 ^ n.toNat - 1))
theorem gOk_iff {n : Int} {es : List E} : gOk n es = true ↔ GOk n es := by
 unfold gOk GOk
 simp only [Bool.and_eq_true, decide_eq_true_eq]
 constructor
 ·rintro ⟨h1, h2, h3⟩
  have h := h1
  unfold EsOk at h
  obtain ⟨m, rfl⟩ := Int.eq_ofNat_of_zero_le (a := n) (by omega)
  exact ⟨h1, h2, (times_joined (n := m) (by omega) h.2.2.2).1 h3⟩
 ·rintro ⟨h1, h2, h3⟩
  have h := h1
  unfold EsOk at h
  obtain ⟨m, rfl⟩ := Int.eq_ofNat_of_zero_le (a := n) (by omega)
  exact ⟨h1, h2, (times_joined (n := m) (by omega) h.2.2.2).2 h3⟩
def QOk (es : List E) (n : Int) (q : List Int) : Prop := q.Nodup ∧ ∀ v ∈ q, (0 ≤ v ∧ v < n) ∧ Conn es 0 v
theorem nodup_len : ∀ (n : Nat) (l : List Int), l.Nodup → (∀ v ∈ l, 0 ≤ v ∧ v < n) → l.length ≤ n
 | 0, l, _, hv => by
  cases l with
  | nil => exact Nat.le_refl _
  | cons a r => have := hv a List.mem_cons_self; omega
 | n + 1, l, hl, hv => by
  by_cases hm : (n : Int) ∈ l
  ·have h1 := nodup_len n (l.erase n) (hl.erase _) (fun v hx => by
    have h2 := (hl.mem_erase_iff).1 hx
    have := hv v h2.2
    have := h2.1
    omega)
   rw [List.length_erase_of_mem hm] at h1
   omega
  ·have := nodup_len n l hl (fun v hx => by
    have := hv v hx
    have : v ≠ n := by rintro rfl; exact hm hx
    omega)
   omega
theorem len_nodup : ∀ (n : Nat) (l : List Int), (∀ i : Nat, i < n → (i : Int) ∈ l) → n ≤ l.length
 | 0, _, _ => Nat.zero_le _
 | n + 1, l, h => by
  have hm := h n (by omega)
  have := len_nodup n (l.erase n) (fun i hi => (List.mem_erase_of_ne (by omega)).2 (h i (by omega)))
  rw [List.length_erase_of_mem hm] at this
  have : 0 < l.length := List.length_pos_of_mem hm
  omega
theorem queue_joined {es : List E} {n : Nat} (h1 : 1 ≤ n) {q : List Int} (hq : QOk es n q) (h0 : (0 : Int) ∈ q) (hc : ∀ a ∈ q, ∀ b, Adj es a b → b ∈ q) : q.length = n ↔ Joined n es := by
 constructor
 ·intro hl v hv0 hvn
  have : v ∈ q := by
   apply Classical.byContradiction
   intro hv
   have := nodup_len n (v :: q) (List.nodup_cons.2 ⟨hv, hq.1⟩) (fun x hx => by
    rcases List.mem_cons.1 hx with rfl | hx
    ·exact ⟨hv0, hvn⟩
    ·exact (hq.2 x hx).1)
   simp at this
   omega
  exact (hq.2 v this).2
 ·intro hj
  have := nodup_len n q hq.1 (fun x hx => (hq.2 x hx).1)
  have := len_nodup n q (fun i hi => (hj i (by omega) (by omega)).closed (S := fun x => x ∈ q) (fun a b ha hab => hc a ha b hab) h0)
  omega
theorem QOk.push {es : List E} {n : Int} {q : List Int} (h : QOk es n q) {v : Int} (hv : v ∉ q) (h0 : 0 ≤ v ∧ v < n) (hc : Conn es 0 v) : QOk es n (q ++ [v]) := by
 refine ⟨?_, fun x hx => ?_⟩
 ·rw [List.nodup_append]
  exact ⟨h.1, by simp, fun a ha b hb => by
   rw [List.mem_singleton.1 hb]
   rintro rfl
   exact hv ha⟩
 ·rcases List.mem_append.1 hx with hx | hx
  ·exact h.2 x hx
  ·rw [List.mem_singleton.1 hx]
   exact ⟨h0, hc⟩
end Go.Proofs.Ytkcbinohpdhbgaa.Cf
end

section
namespace Go.Proofs.Ytkcbinohpdhbgaa.P
open Go.RowKit Go.Proofs.YtkcbinohpdhbgaaW.PrintWords Go.Proofs.YtkcbinohpdhbgaaW.PrintLast Go.Proofs.YtkcbinohpdhbgaaW.PrintMore
attribute [local go_sem] max2_int min2_int max_two min_two max_three min_three max_four min_four
set_option linter.unusedVariables false
set_option linter.unusedSimpArgs false
def laws_toIntS.l0 : Nat → List Int → List Int → Int → Option (List Int)
 | 0, _, _, _ => none
 | k + 1, x0, x3, x4 => if x4 < (x0.length : Int) then (if 0 ≤ x4 then (if x4 < (x3.length : Int) then (laws_toIntS.l0 k x0 (x3.set (x4 : Int).toNat (rd x0 x4)) (wrap64 (x4 + 1))) else (none)) else (none)) else (some x3)
def laws_toIntS.f (k : Nat) (l0 : List Int) : Option (List Int) := if 0 ≤ (l0.length : Int) then (if ((l0.length : Int) : Int).toNat ≤ 35184372088832 then (laws_toIntS.l0 k l0 (List.replicate ((l0.length : Int) : Int).toNat 0) 0) else (none)) else (none)
theorem laws_toIntS.mono_l : ∀ k, (∀ y0 y1 y2, LeO (laws_toIntS.l0 k y0 y1 y2) (laws_toIntS.l0 (k + 1) y0 y1 y2))
 | 0 => fun _ _ _ r h => by simp [laws_toIntS.l0] at h
 | k + 1 => by
  have ih0 := laws_toIntS.mono_l k
  ·intro y0 y1 y2
   unfold laws_toIntS.l0
   exact zm0
theorem laws_toIntS.mono : ∀ a0 k, LeO (laws_toIntS.f k a0) (laws_toIntS.f (k + 1) a0) := by
 intro a0 k; have ih0 := laws_toIntS.mono_l k; unfold laws_toIntS.f; exact zm0
def laws_eqIntS.l0 : Nat → List Int → List Int → Int → Option (Bool)
 | 0, _, _, _ => none
 | k + 1, x0, x1, x5 => if x5 < (x0.length : Int) then (if 0 ≤ x5 then (if x5 < (x1.length : Int) then (if (rd x0 x5) = (rd x1 x5) then (laws_eqIntS.l0 k x0 x1 (wrap64 (x5 + 1))) else (some false)) else (none)) else (none)) else (some true)
def laws_eqIntS.f (k : Nat) (l0 : List Int) (l1 : List Int) : Option (Bool) := if (l0.length : Int) = (l1.length : Int) then (laws_eqIntS.l0 k l0 l1 0) else (some false)
theorem laws_eqIntS.mono_l : ∀ k, (∀ y0 y1 y2, LeO (laws_eqIntS.l0 k y0 y1 y2) (laws_eqIntS.l0 (k + 1) y0 y1 y2))
 | 0 => fun _ _ _ r h => by simp [laws_eqIntS.l0] at h
 | k + 1 => by
  have ih0 := laws_eqIntS.mono_l k
  ·intro y0 y1 y2
   unfold laws_eqIntS.l0
   exact zm0
theorem laws_eqIntS.mono : ∀ a0 a1 k, LeO (laws_eqIntS.f k a0 a1) (laws_eqIntS.f (k + 1) a0 a1) := by
 intro a0 a1 k; have ih0 := laws_eqIntS.mono_l k; unfold laws_eqIntS.f; exact zm0
def laws_markIntS.l0 : Nat → List Int → Int → Int → Option (Int × List Int)
 | 0, _, _, _ => none
 | k + 1, x0, x1, x5 => if x5 < (x0.length : Int) then (if 0 ≤ x5 then (laws_markIntS.l0 k (x0.set (x5 : Int).toNat x1) (wrap64 (x1 + 1)) (wrap64 (x5 + 1))) else (none)) else (some (x1, x0))
def laws_markIntS.f (k : Nat) (l0 : List Int) (a1 : Int) : Option (Int × List Int) := laws_markIntS.l0 k l0 a1 0
theorem laws_markIntS.mono_l : ∀ k, (∀ y0 y1 y2, LeO (laws_markIntS.l0 k y0 y1 y2) (laws_markIntS.l0 (k + 1) y0 y1 y2))
 | 0 => fun _ _ _ r h => by simp [laws_markIntS.l0] at h
 | k + 1 => by
  have ih0 := laws_markIntS.mono_l k
  ·intro y0 y1 y2
   unfold laws_markIntS.l0
   exact zm0
theorem laws_markIntS.mono : ∀ a0 a1 k, LeO (laws_markIntS.f k a0 a1) (laws_markIntS.f (k + 1) a0 a1) := by
 intro a0 a1 k; have ih0 := laws_markIntS.mono_l k; unfold laws_markIntS.f; exact zm0
def laws_heldIntS.l0 : Nat → List Int → Int → Int → Option (Int)
 | 0, _, _, _ => none
 | k + 1, x0, x1, x5 => if x5 < (x0.length : Int) then (if 0 ≤ x5 then (if (rd x0 x5) = x1 then (laws_heldIntS.l0 k x0 (wrap64 (x1 + 1)) (wrap64 (x5 + 1))) else (some (-1))) else (none)) else (some x1)
def laws_heldIntS.f (k : Nat) (l0 : List Int) (a1 : Int) : Option (Int) := laws_heldIntS.l0 k l0 a1 0
theorem laws_heldIntS.mono_l : ∀ k, (∀ y0 y1 y2, LeO (laws_heldIntS.l0 k y0 y1 y2) (laws_heldIntS.l0 (k + 1) y0 y1 y2))
 | 0 => fun _ _ _ r h => by simp [laws_heldIntS.l0] at h
 | k + 1 => by
  have ih0 := laws_heldIntS.mono_l k
  ·intro y0 y1 y2
   unfold laws_heldIntS.l0
   exact zm0
theorem laws_heldIntS.mono : ∀ a0 a1 k, LeO (laws_heldIntS.f k a0 a1) (laws_heldIntS.f (k + 1) a0 a1) := by
 intro a0 a1 k; have ih0 := laws_heldIntS.mono_l k; unfold laws_heldIntS.f; exact zm0
end Go.Proofs.Ytkcbinohpdhbgaa.P
end

section
namespace Go.Proofs.Ytkcbinohpdhbgaa.Cf
set_option linter.unusedVariables false
set_option linter.unusedSimpArgs false
open Go.RowKit Go.Proofs.YtkcbinohpdhbgaaW.PrintWords Go.Proofs.Ytkcbinohpdhbgaa.P
theorem wrap_succ {i : Nat} (h : i < 4611686018427387904) : wrap64 ((i : Int) + 1) = ((i + 1 : Nat) : Int) := by
 rw [wrap_id (by omega) (by omega)]
 omega
end Go.Proofs.Ytkcbinohpdhbgaa.Cf
end

section
namespace Go.Proofs.Ytkcbinohpdhbgaa.P
open Go.RowKit Go.Proofs.YtkcbinohpdhbgaaW.PrintWords Go.Proofs.YtkcbinohpdhbgaaW.PrintLast Go.Proofs.YtkcbinohpdhbgaaW.PrintMore
attribute [local go_sem] max2_int min2_int max_two min_two max_three min_three max_four min_four
set_option linter.unusedVariables false
set_option linter.unusedSimpArgs false
def spec_l01In.f (a0 : Int) (a1 : Int) (a2 : Int) : Option (Bool) := if a0 ≥ a1 then (some (decide (a0 ≤ a2))) else (some false)
theorem spec_l01In.calls (a0 : Int) (a1 : Int) (a2 : Int) (r : Bool) (w : World) (h : spec_l01In.f a0 a1 a2 = some r) :
  Calls Try.prog 70 #[.int .i64 a0, .int .i64 a1, .int .i64 a2] w fun e w' => e = .returned (.bool r) ∧ Drawn0 w w' := by
 have H : (if a0 ≥ a1 then (some (decide (a0 ≤ a2))) else (some false)) = some r := h; clear h; by_cases c4 : a0 ≥ a1
 ·rw [if_pos c4] at H; have iQ : decide (a1 ≤ a0) = true := decide_eq_true c4; clear c4; obtain rfl := Option.some.inj H; go_enter Try.func70, Try.ntmps70; go_wp2; go_ret; exact ⟨zz6, by repeat (first | exact Drawn0.refl _ | apply Drawn0.step)⟩
 rw [if_neg c4] at H; have iQ : decide (a1 ≤ a0) = false := decide_eq_false c4; clear c4; obtain rfl := Option.some.inj H; go_enter Try.func70, Try.ntmps70; go_wp2; go_ret; exact ⟨zz6, by repeat (first | exact Drawn0.refl _ | apply Drawn0.step)⟩
mutual
def spec_EdgesOk.j0 : Nat → Bool → Int → List (S76) → Option (Bool)
 | 0, _, _, _ => none
 | k + 1, rJ, aY, aX => if rJ = true then (some false) else (spec_EdgesOk.l0 k aX (aX.length : Int) 0 aY aX)
def spec_EdgesOk.l0 : Nat → List (S76) → Int → Int → Int → List (S76) → Option (Bool)
 | 0, _, _, _, _, _ => none
 | k + 1, nU, mN, oY, aY, aX => if oY < mN then (if 0 ≤ oY then (if oY < (nU.length : Int) then ((spec_l01In.f ((rd_T76 nU oY).f0) 0 (wrap64 (aY - 1))).bind fun cM => (if cM = true then ((spec_l01In.f ((rd_T76 nU oY).f1) (wrap64 (((rd_T76 nU oY).f0) + 1)) (wrap64 (aY - 1))).bind fun bT => (if bT = true then (spec_EdgesOk.l0 k nU mN (wrap64 (oY + 1)) aY aX) else (some false))) else (some false))) else (none)) else (none)) else (some true)
end
def spec_EdgesOk.f (k : Nat) (aD : Int) (aC : List (S76)) : Option (Bool) := (spec_l01In.f aD 1 6).bind fun aT => (if aT = true then (spec_EdgesOk.j0 k (decide ((aC.length : Int) > 12)) aD aC) else (spec_EdgesOk.j0 k true aD aC))
theorem spec_EdgesOk.mono_l : ∀ k, (∀ y0 y1 y2, LeO (spec_EdgesOk.j0 k y0 y1 y2) (spec_EdgesOk.j0 (k + 1) y0 y1 y2)) ∧ (∀ y0 y1 y2 y3 y4, LeO (spec_EdgesOk.l0 k y0 y1 y2 y3 y4) (spec_EdgesOk.l0 (k + 1) y0 y1 y2 y3 y4))
 | 0 => ⟨fun _ _ _ r h => by simp [spec_EdgesOk.j0] at h, fun _ _ _ _ _ r h => by simp [spec_EdgesOk.l0] at h⟩
 | k + 1 => by
  obtain ⟨ih0, ih1⟩ := spec_EdgesOk.mono_l k
  refine ⟨?_, ?_⟩
  ·intro y0 y1 y2
   unfold spec_EdgesOk.j0
   exact zm1
  ·intro y0 y1 y2 y3 y4
   unfold spec_EdgesOk.l0
   exact zm1
theorem spec_EdgesOk.mono : ∀ a0 a1 k, LeO (spec_EdgesOk.f k a0 a1) (spec_EdgesOk.f (k + 1) a0 a1) := by
 intro a0 a1 k; obtain ⟨ih0, ih1⟩ := spec_EdgesOk.mono_l k; unfold spec_EdgesOk.f; exact zm1
theorem spec_EdgesOk.calls (k : Nat) (aD : Int) (aH : Option Addr) (aG : Nat) (aC : List (S76)) (r : Bool) (w : World) (hr0_1 : Kd.C k76 w aH aC.length aC) (hc0_1 : aC.length ≤ aG) (h : spec_EdgesOk.f k aD aC = some r) :
  Calls Try.prog 64 #[.agg #[.int .i64 aD, .slice aH aC.length aG]] w fun e w' => e = .returned (.bool r) ∧ Below w.heap.size w w' := by
 have hu30 := Try.underlying30; have hu76 := Try.underlying76; have cB := zK_ hr0_1; have bO := zK_ hc0_1; clear hr0_1 hc0_1; have HB := zK_ (Below.refl w.heap.size w); have H : ((spec_l01In.f aD 1 6).bind fun aT => (if aT = true then (spec_EdgesOk.j0 k (decide ((aC.length : Int) > 12)) aD aC) else (spec_EdgesOk.j0 k true aD aC))) = some r := h; clear h; have HC2 := zK_ H; clear H; go_enter Try.func64, Try.ntmps64; (go_upto_region 1 with (first | ((with_reducible refine gate_dst (N := 1) rfl ?_); (try (refine gate_guard (by rfl) ?_; dsimp only)); refine box_event ?hg (N := 1) ?hd (cs := #[.int .i64 aD, .slice aH aC.length aG]) (t := 30) ?hr ?_; (case hd => rfl); (case hg => rfl); (case hr => exact zz21); intro aE hg w3 hbox hb; have n_ := zA4 (below_step zz2 hb) hbox (zz18 : w.heap.size ≤ aE) (zz18 : w.heap.size ≤ aE); clear HB; obtain ⟨HB, aA, GW101, GE101⟩ := n_; clear hb hbox hg))); (try simp only [Act.put, List.setIfInBounds_toArray, List.set_cons_zero, List.set_cons_succ]); go_cut [14] (fun v14 wc => ∃ (kq : Nat) (dT : Bool), v14 = .bool dT ∧ Aside0 (spec_EdgesOk.j0 kq dT aD aC = some r) ∧ Aside0 (kq ≤ k) ∧ Aside0 (wc.heap[aE]? = some (.cells #[.int .i64 aD, (.slice aH aC.length aG)] 30 (0, 0))) ∧ Aside0 (Below w.heap.size w wc))
 case first =>
  have H := HC2.out; clear HC2; obtain ⟨aT, A40, H⟩ := zO_ H; (try dsimp only at H); have A4 := zK_ A40; clear A40; by_cases c5 : aT = true
  ·subst c5; rw [if_pos rfl] at H; have H' := zK_ H; clear H; have jQ := zC20 aA; have jP := zC21 aA; have jO := blk_frozen aA.out 0; have jN := blk_frozen aA.out 1; (go_wp2_with (first | ((with_reducible refine gate_callee (f := 70) rfl ?_); refine goesL_ (some 7) rfl rfl Try.func70 (by kernel_rfl) rfl #[.int .i64 aD, .int .i64 1, .int .i64 6] rfl zz3 ?_; (with_reducible refine (spec_l01In.calls aD 1 6 true _ A4.out).mono ?_); rintro e w' ⟨rfl, ⟨nd, rfl⟩⟩; refine ⟨_, rfl, ?_⟩))); (go_meet); case rel => exact ⟨_, (decide ((aC.length : Int) > 12)), zz6, H', ⟨by first | omega | exact Nat.le_refl _⟩, ⟨zz1⟩, ⟨zz0⟩⟩
  replace c5 := Bool.eq_false_iff.mpr c5; subst c5; rw [if_neg (show ¬ (false = true) by decide)] at H; have H' := zK_ H; clear H; have f8 := zC20 aA; have f7 := zC21 aA; have f6 := blk_frozen aA.out 0; have f4 := blk_frozen aA.out 1; (go_wp2_with (first | ((with_reducible refine gate_callee (f := 70) rfl ?_); refine goesL_ (some 7) rfl rfl Try.func70 (by kernel_rfl) rfl #[.int .i64 aD, .int .i64 1, .int .i64 6] rfl zz3 ?_; (with_reducible refine (spec_l01In.calls aD 1 6 false _ A4.out).mono ?_); rintro e w' ⟨rfl, ⟨nd, rfl⟩⟩; refine ⟨_, rfl, ?_⟩))); (go_meet); case rel => exact ⟨_, (true), zz6, H', ⟨by first | omega | exact Nat.le_refl _⟩, ⟨zz1⟩, ⟨zz0⟩⟩
 case rest =>
  clear HC2; (try clear p2); (try clear c5); (try clear c6); (try clear c7); (try clear jQ); (try clear jP); (try clear f8); (try clear f7); (try clear jO); (try clear jN); (try clear f6); (try clear f4); obtain ⟨kq, dT, rfl, HA, HJ1, aA, HB⟩ := hcut
  cases kq with
  | zero => exact absurd HA.out (by simp [spec_EdgesOk.j0])
  | succ kj1 =>
   have H := HA.out; clear HA; simp only [spec_EdgesOk.j0] at H; by_cases c8 : dT = true
   ·subst c8; rw [if_pos rfl] at H; obtain rfl := Option.some.inj H; go_wp2; go_ret; exact ⟨zz10, zz0⟩
   replace c8 := Bool.eq_false_iff.mpr c8; subst c8; rw [if_neg (show ¬ (false = true) by decide)] at H; have H' := zK_ H; clear H; have fQ := zC20 aA; have fP := zC21 aA; have fO := blk_frozen aA.out 0; have fN := blk_frozen aA.out 1; go_wp2; (go_loopg [18] kj1 (fun kq v18 w' => ∃ (cP : Int), v18 = .int .i64 cP ∧ Aside0 (spec_EdgesOk.l0 kq aC (aC.length : Int) cP aD aC = some r) ∧ Aside0 (kq ≤ kj1) ∧ Aside0 (w'.heap[aE]? = some (.cells #[.int .i64 aD, (.slice aH aC.length aG)] 30 (0, 0))) ∧ Aside0 (Below w.heap.size w w'))); case atStart => exact ⟨(0), zz6, H', ⟨Nat.le_refl _⟩, ⟨zz1⟩, ⟨zz0⟩⟩
   case round =>
    clear H'; (try clear p2); (try clear c5); (try clear c6); (try clear c7); (try clear c8); (try clear jQ); (try clear jP); (try clear f8); (try clear f7); (try clear fQ); (try clear fP); (try clear jO); (try clear jN); (try clear f6); (try clear f4); (try clear fO); (try clear fN); (try clear p2); obtain ⟨cP, rfl, HA, HK2, aA, HB⟩ := hrel
    cases gk with
    | zero => exact absurd HA.out (by simp [spec_EdgesOk.l0])
    | succ k2 =>
     have H := HA.out; clear HA; simp only [spec_EdgesOk.l0] at H; by_cases c10 : cP < (aC.length : Int); rotate_left
     ·rw [if_neg c10] at H; have g6 := decide_eq_false c10; clear c10; obtain rfl := Option.some.inj H; go_wp2; go_ret; exact ⟨zz10, zz0⟩
     rw [if_pos c10] at H; have g6 := decide_eq_true c10; clear c10; by_cases c11 : 0 ≤ cP; rotate_left
     ·rw [if_neg c11] at H; exact absurd H (by simp)
     rw [if_pos c11] at H; have nP := decide_eq_true c11; clear c11; by_cases c12 : cP < (aC.length : Int); rotate_left
     ·rw [if_neg c12] at H; exact absurd H (by simp)
     rw [if_pos c12] at H; have mJ := decide_eq_true c12; clear c12; obtain ⟨cM, A130, H⟩ := zO_ H; (try dsimp only at H); have A13 := zK_ A130; clear A130; by_cases c14 : cM = true; rotate_left
     ·replace c14 := Bool.eq_false_iff.mpr c14; subst c14; rw [if_neg (show ¬ (false = true) by decide)] at H; obtain rfl := Option.some.inj H; have p103 : 0 ≤ (cP : Int) := of_decide_eq_true zz4; have q103 : cP < (aC.length : Int) := of_decide_eq_true zz4; obtain ⟨bZ, e103, bL, bV⟩ := at_T76 cB.out cP p103 q103; cases e103; replace bL := (HB.out.cell (World.block_lt_of_cell? w _ bL)).trans bL; replace bV := (HB.out.cell (World.block_lt_of_cell? w _ bV)).trans bV; replace p103 := eq_true p103; replace q103 := eq_true q103; (go_wp2_with (first | ((with_reducible refine gate_dst (N := 4) rfl ?_); (try (refine gate_guard (by rfl) ?_; dsimp only)); refine box_event ?hg (N := 4) ?hd (cs := #[.int .i64 0, .int .i64 0]) (t := 76) ?hr ?_; (case hd => rfl); (case hg => rfl); (case hr => exact zz21); intro bE hg w25 hbox hb; have n_ := zA7 (blk_below (g := aE) (o := .cells #[.int .i64 aD, .slice (some bZ) aC.length aG] 30 (0, 0)) zz1 hb) (below_step zz0 hb) hbox (zz47 : w.heap.size ≤ bE) (zz47 : w.heap.size ≤ bE) (zz57 : aE ≠ bE) (zz58 : bE ≠ aE); clear aA HB; obtain ⟨aA, HB, bM, GW104, GE104, cK, cS⟩ := n_; clear hb hbox hg; have BL := cS.out; have AW := cK.out; have pW := zC20 bM; have pV := zC21 bM; have pK := blk_frozen bM.out 0; have pJ := blk_frozen bM.out 1; have tC := zC20 aA; have tB := zC21 aA; have sS := blk_frozen aA.out 0; have sR := blk_frozen aA.out 1) | ((with_reducible refine gate_callee (f := 70) rfl ?_); refine goesL_ (some 27) rfl rfl Try.func70 (by kernel_rfl) rfl #[.int .i64 ((rd_T76 aC cP).f0), .int .i64 0, .int .i64 (wrap64 (aD - 1))] rfl zz3 ?_; (with_reducible refine (spec_l01In.calls ((rd_T76 aC cP).f0) 0 (wrap64 (aD - 1)) false _ A13.out).mono ?_); rintro e w' ⟨rfl, ⟨nd, rfl⟩⟩; refine ⟨_, rfl, ?_⟩))); go_ret; exact ⟨zz10, zz26⟩
     subst c14; rw [if_pos rfl] at H; obtain ⟨bT, A150, H⟩ := zO_ H; (try dsimp only at H); have A15 := zK_ A150; clear A150; by_cases c16 : bT = true; rotate_left
     ·replace c16 := Bool.eq_false_iff.mpr c16; subst c16; rw [if_neg (show ¬ (false = true) by decide)] at H; obtain rfl := Option.some.inj H; have p103 : 0 ≤ (cP : Int) := of_decide_eq_true zz4; have q103 : cP < (aC.length : Int) := of_decide_eq_true zz4; obtain ⟨bZ, e103, bL, bV⟩ := at_T76 cB.out cP p103 q103; cases e103; replace bL := (HB.out.cell (World.block_lt_of_cell? w _ bL)).trans bL; replace bV := (HB.out.cell (World.block_lt_of_cell? w _ bV)).trans bV; replace p103 := eq_true p103; replace q103 := eq_true q103; (go_wp2_with (first | ((with_reducible refine gate_dst (N := 4) rfl ?_); (try (refine gate_guard (by rfl) ?_; dsimp only)); refine box_event ?hg (N := 4) ?hd (cs := #[.int .i64 0, .int .i64 0]) (t := 76) ?hr ?_; (case hd => rfl); (case hg => rfl); (case hr => exact zz21); intro bE hg w21 hbox hb; have n_ := zA7 (blk_below (g := aE) (o := .cells #[.int .i64 aD, .slice (some bZ) aC.length aG] 30 (0, 0)) zz1 hb) (below_step zz0 hb) hbox (zz47 : w.heap.size ≤ bE) (zz47 : w.heap.size ≤ bE) (zz57 : aE ≠ bE) (zz58 : bE ≠ aE); clear aA HB; obtain ⟨aA, HB, bM, GW104, GE104, cK, cS⟩ := n_; clear hb hbox hg; have t8 := cS.out; have t7 := cK.out; have iX := zC20 bM; have iW := zC21 bM; have iV := blk_frozen bM.out 0; have iU := blk_frozen bM.out 1; have l7 := zC20 aA; have l6 := zC21 aA; have lS := blk_frozen aA.out 0; have lR := blk_frozen aA.out 1) | ((with_reducible refine gate_callee (f := 70) rfl ?_); refine goesL_ (some 27) rfl rfl Try.func70 (by kernel_rfl) rfl #[.int .i64 ((rd_T76 aC cP).f0), .int .i64 0, .int .i64 (wrap64 (aD - 1))] rfl zz3 ?_; (with_reducible refine (spec_l01In.calls ((rd_T76 aC cP).f0) 0 (wrap64 (aD - 1)) true _ A13.out).mono ?_); rintro e w' ⟨rfl, ⟨nd, rfl⟩⟩; refine ⟨_, rfl, ?_⟩) | (go_at_call 70; (with_reducible refine (spec_l01In.calls ((rd_T76 aC cP).f1) (wrap64 (((rd_T76 aC cP).f0) + 1)) (wrap64 (aD - 1)) false _ A15.out).mono ?_); rintro e w' ⟨rfl, ⟨nd, rfl⟩⟩))); go_ret; exact ⟨zz10, zz26⟩
     subst c16; rw [if_pos rfl] at H; have H' := zK_ H; clear H; have p103 : 0 ≤ (cP : Int) := of_decide_eq_true zz4; have q103 : cP < (aC.length : Int) := of_decide_eq_true zz4; obtain ⟨bZ, e103, bL, bV⟩ := at_T76 cB.out cP p103 q103; cases e103; replace bL := (HB.out.cell (World.block_lt_of_cell? w _ bL)).trans bL; replace bV := (HB.out.cell (World.block_lt_of_cell? w _ bV)).trans bV; replace p103 := eq_true p103; replace q103 := eq_true q103; (go_wp2_with (first | ((with_reducible refine gate_dst (N := 4) rfl ?_); (try (refine gate_guard (by rfl) ?_; dsimp only)); refine box_event ?hg (N := 4) ?hd (cs := #[.int .i64 0, .int .i64 0]) (t := 76) ?hr ?_; (case hd => rfl); (case hg => rfl); (case hr => exact zz21); intro bE hg w17 hbox hb; have n_ := zA7 (blk_below (g := aE) (o := .cells #[.int .i64 aD, .slice (some bZ) aC.length aG] 30 (0, 0)) zz1 hb) (below_step zz0 hb) hbox (zz47 : w.heap.size ≤ bE) (zz47 : w.heap.size ≤ bE) (zz57 : aE ≠ bE) (zz58 : bE ≠ aE); clear aA HB; obtain ⟨aA, HB, bM, GW104, GE104, cK, cS⟩ := n_; clear hb hbox hg; have qO := cS.out; have qN := cK.out; have kC := zC20 bM; have kB := zC21 bM; have j6 := blk_frozen bM.out 0; have j5 := blk_frozen bM.out 1; have m5 := zC20 aA; have m4 := zC21 aA; have lU := blk_frozen aA.out 0; have lT := blk_frozen aA.out 1) | ((with_reducible refine gate_callee (f := 70) rfl ?_); refine goesL_ (some 27) rfl rfl Try.func70 (by kernel_rfl) rfl #[.int .i64 ((rd_T76 aC cP).f0), .int .i64 0, .int .i64 (wrap64 (aD - 1))] rfl zz3 ?_; (with_reducible refine (spec_l01In.calls ((rd_T76 aC cP).f0) 0 (wrap64 (aD - 1)) true _ A13.out).mono ?_); rintro e w' ⟨rfl, ⟨nd, rfl⟩⟩; refine ⟨_, rfl, ?_⟩) | (go_at_call 70; (with_reducible refine (spec_l01In.calls ((rd_T76 aC cP).f1) (wrap64 (((rd_T76 aC cP).f0) + 1)) (wrap64 (aD - 1)) true _ A15.out).mono ?_); rintro e w' ⟨rfl, ⟨nd, rfl⟩⟩))); go_roundg k2; (case measure => have := HJ1.out; have := HK2.out; omega); case rel => exact ⟨(wrap64 (cP + 1)), zz6, H', ⟨by have := HJ1.out; have := HK2.out; omega⟩, ⟨zz36⟩, ⟨zz26⟩⟩
end Go.Proofs.Ytkcbinohpdhbgaa.P
end

section
namespace Go.Proofs.Ytkcbinohpdhbgaa.P
open Go.RowKit Go.Proofs.YtkcbinohpdhbgaaW.PrintWords Go.Proofs.YtkcbinohpdhbgaaW.PrintLast Go.Proofs.YtkcbinohpdhbgaaW.PrintMore
attribute [local go_sem] max2_int min2_int max_two min_two max_three min_three max_four min_four
set_option linter.unusedVariables false
set_option linter.unusedSimpArgs false
def spec_l02Has.l0 : Nat → Int → List Int → Int → Int → Option (Bool)
 | 0, _, _, _, _ => none
 | k + 1, x1, x7, x8, x9 => if x9 < x8 then (if 0 ≤ x9 then (if x9 < (x7.length : Int) then (if (rd x7 x9) = x1 then (some true) else (spec_l02Has.l0 k x1 x7 x8 (wrap64 (x9 + 1)))) else (none)) else (none)) else (some false)
def spec_l02Has.f (k : Nat) (l0 : List Int) (a1 : Int) : Option (Bool) := spec_l02Has.l0 k a1 l0 (l0.length : Int) 0
theorem spec_l02Has.mono_l : ∀ k, (∀ y0 y1 y2 y3, LeO (spec_l02Has.l0 k y0 y1 y2 y3) (spec_l02Has.l0 (k + 1) y0 y1 y2 y3))
 | 0 => fun _ _ _ _ r h => by simp [spec_l02Has.l0] at h
 | k + 1 => by
  have ih0 := spec_l02Has.mono_l k
  ·intro y0 y1 y2 y3
   unfold spec_l02Has.l0
   exact zm0
theorem spec_l02Has.mono : ∀ a0 a1 k, LeO (spec_l02Has.f k a0 a1) (spec_l02Has.f (k + 1) a0 a1) := by
 intro a0 a1 k; have ih0 := spec_l02Has.mono_l k; unfold spec_l02Has.f; exact zm0
theorem spec_l02Has.calls (k : Nat) (A0 : Option Addr) (c0 : Nat) (l0 : List Int) (a1 : Int) (r : Bool) (w : World) (hr0 : Kd.C (Kd.int .i64) w A0 l0.length l0) (hc0 : l0.length ≤ c0) (h : spec_l02Has.f k l0 a1 = some r) :
  Calls Try.prog 95 #[.slice A0 l0.length c0, .int .i64 a1] w fun e w' => e = .returned (.bool r) ∧ Drawn0 w w' := by
 have HR0 := zK_ hr0; have HC0 := zK_ hc0; clear hr0 hc0; have H : (spec_l02Has.l0 k a1 l0 (l0.length : Int) 0) = some r := h; clear h; have H' := zK_ H; clear H; go_enter Try.func95, Try.ntmps95; go_wp2; (go_loopg [9] k (fun kq v9 w' => ∃ (bU : Int), v9 = .int .i64 bU ∧ Aside0 (spec_l02Has.l0 kq a1 l0 (l0.length : Int) bU = some r) ∧ Aside0 (kq ≤ k) ∧ Drawn0 w w')); case atStart => exact ⟨(0), zz6, H', ⟨Nat.le_refl _⟩, by repeat (first | exact Drawn0.refl _ | apply Drawn0.step)⟩
 case round =>
  clear H'; (try clear p2); obtain ⟨bU, rfl, HA, HK1, ⟨m1, rfl⟩⟩ := hrel
  cases gk with
  | zero => exact absurd HA.out (by simp [spec_l02Has.l0])
  | succ k1 =>
   have H := HA.out; clear HA; simp only [spec_l02Has.l0] at H; by_cases c3 : bU < (l0.length : Int); rotate_left
   ·rw [if_neg c3] at H; have jA := decide_eq_false c3; clear c3; obtain rfl := Option.some.inj H; go_wp2; go_ret; exact ⟨zz6, by repeat (first | exact Drawn0.refl _ | apply Drawn0.step)⟩
   rw [if_pos c3] at H; have jA := decide_eq_true c3; clear c3; by_cases c4 : 0 ≤ bU; rotate_left
   ·rw [if_neg c4] at H; exact absurd H (by simp)
   rw [if_pos c4] at H; have iQ := decide_eq_true c4; clear c4; by_cases c5 : bU < (l0.length : Int); rotate_left
   ·rw [if_neg c5] at H; exact absurd H (by simp)
   rw [if_pos c5] at H; have fX := decide_eq_true c5; clear c5; by_cases c6 : (rd l0 bU) = a1
   ·rw [if_pos c6] at H; have i9 : ((rd l0 bU) == a1) = true := beq_iff_eq.mpr c6; have nX : ((rd l0 bU) != a1) = false := bne_eq_false_iff_eq.mpr c6; clear c6; obtain rfl := Option.some.inj H; have p101 : 0 ≤ (bU : Int) := of_decide_eq_true zz4; have q101 : bU < (l0.length : Int) := of_decide_eq_true zz4; obtain ⟨f9, e101, b8⟩ := Kd.at_int HR0.out bU p101 q101; cases e101; replace p101 := eq_true p101; replace q101 := eq_true q101; go_wp2; go_ret; exact ⟨zz6, by repeat (first | exact Drawn0.refl _ | apply Drawn0.step)⟩
   rw [if_neg c6] at H; have i9 : ((rd l0 bU) == a1) = false := beq_eq_false_iff_ne.mpr c6; have nX : ((rd l0 bU) != a1) = true := bne_iff_ne.mpr c6; have H' := zK_ H; clear H; have p101 : 0 ≤ (bU : Int) := of_decide_eq_true zz4; have q101 : bU < (l0.length : Int) := of_decide_eq_true zz4; obtain ⟨f9, e101, b8⟩ := Kd.at_int HR0.out bU p101 q101; cases e101; replace p101 := eq_true p101; replace q101 := eq_true q101; go_wp2; go_roundg k1; (case measure => have := HK1.out; omega); case rel => exact ⟨(wrap64 (bU + 1)), zz6, H', ⟨zz99⟩, by repeat (first | exact Drawn0.refl _ | apply Drawn0.step)⟩
mutual
def spec_l02Reach.l0 : Nat → List Int → Int → Int → List (S76) → Option (List Int)
 | 0, _, _, _, _ => none
 | k + 1, x3, x4, aY, aX => if x4 < (x3.length : Int) then (spec_l02Reach.l1 k x3 x4 aX (aX.length : Int) 0 aY aX) else (some x3)
def spec_l02Reach.l1 : Nat → List Int → Int → List (S76) → Int → Int → Int → List (S76) → Option (List Int)
 | 0, _, _, _, _, _, _, _ => none
 | k + 1, x3, x4, nI, nU, mN, aY, aX => if mN < nU then (if 0 ≤ mN then (if mN < (nI.length : Int) then (if 0 ≤ x4 then (if x4 < (x3.length : Int) then (if ((rd_T76 nI mN).f0) = (rd x3 x4) then ((spec_l02Has.f k x3 ((rd_T76 nI mN).f1)).bind fun d9 => (spec_l02Reach.j2 k x3 x4 nI nU mN (!d9) aY aX ((rd_T76 nI mN).f0) ((rd_T76 nI mN).f1))) else (spec_l02Reach.j2 k x3 x4 nI nU mN false aY aX ((rd_T76 nI mN).f0) ((rd_T76 nI mN).f1))) else (none)) else (none)) else (none)) else (none)) else (spec_l02Reach.l0 k x3 (wrap64 (x4 + 1)) aY aX)
def spec_l02Reach.j2 : Nat → List Int → Int → List (S76) → Int → Int → Bool → Int → List (S76) → Int → Int → Option (List Int)
 | 0, _, _, _, _, _, _, _, _, _, _ => none
 | k + 1, x3, x4, nI, nU, mN, RA, aY, aX, fG, gD => if RA = true then (if x3.length < 17592186044416 then ((some (x3 ++ [gD] : List Int)).bind fun dP => (if 0 ≤ x4 then (if x4 < (dP.length : Int) then (if gD = (rd dP x4) then ((spec_l02Has.f k dP fG).bind fun fD => (if fD = true then (spec_l02Reach.l1 k dP x4 nI nU (wrap64 (mN + 1)) aY aX) else (if dP.length < 17592186044416 then (spec_l02Reach.l1 k (dP ++ [fG]) x4 nI nU (wrap64 (mN + 1)) aY aX) else (none)))) else (spec_l02Reach.l1 k dP x4 nI nU (wrap64 (mN + 1)) aY aX)) else (none)) else (none))) else (none)) else (if 0 ≤ x4 then (if x4 < (x3.length : Int) then (if gD = (rd x3 x4) then ((spec_l02Has.f k x3 fG).bind fun oZ => (if oZ = true then (spec_l02Reach.l1 k x3 x4 nI nU (wrap64 (mN + 1)) aY aX) else (if x3.length < 17592186044416 then (spec_l02Reach.l1 k (x3 ++ [fG]) x4 nI nU (wrap64 (mN + 1)) aY aX) else (none)))) else (spec_l02Reach.l1 k x3 x4 nI nU (wrap64 (mN + 1)) aY aX)) else (none)) else (none))
end
def spec_l02Reach.f (k : Nat) (aD : Int) (aC : List (S76)) : Option (List Int) := spec_l02Reach.l0 k (([0] : List Int)) 0 aD aC
theorem spec_l02Reach.mono_l : ∀ k, (∀ y0 y1 y2 y3, LeO (spec_l02Reach.l0 k y0 y1 y2 y3) (spec_l02Reach.l0 (k + 1) y0 y1 y2 y3)) ∧ (∀ y0 y1 y2 y3 y4 y5 y6, LeO (spec_l02Reach.l1 k y0 y1 y2 y3 y4 y5 y6) (spec_l02Reach.l1 (k + 1) y0 y1 y2 y3 y4 y5 y6)) ∧ (∀ y0 y1 y2 y3 y4 y5 y6 y7 y8 y9, LeO (spec_l02Reach.j2 k y0 y1 y2 y3 y4 y5 y6 y7 y8 y9) (spec_l02Reach.j2 (k + 1) y0 y1 y2 y3 y4 y5 y6 y7 y8 y9))
 | 0 => ⟨fun _ _ _ _ r h => by simp [spec_l02Reach.l0] at h, fun _ _ _ _ _ _ _ r h => by simp [spec_l02Reach.l1] at h, fun _ _ _ _ _ _ _ _ _ _ r h => by simp [spec_l02Reach.j2] at h⟩
 | k + 1 => by
  obtain ⟨ih0, ih1, ih2⟩ := spec_l02Reach.mono_l k
  refine ⟨?_, ?_, ?_⟩
  ·intro y0 y1 y2 y3
   unfold spec_l02Reach.l0
   exact zm7
  ·intro y0 y1 y2 y3 y4 y5 y6
   unfold spec_l02Reach.l1
   exact zm7
  ·intro y0 y1 y2 y3 y4 y5 y6 y7 y8 y9
   unfold spec_l02Reach.j2
   exact zm7
theorem spec_l02Reach.mono : ∀ a0 a1 k, LeO (spec_l02Reach.f k a0 a1) (spec_l02Reach.f (k + 1) a0 a1) := by
 intro a0 a1 k; obtain ⟨ih0, ih1, ih2⟩ := spec_l02Reach.mono_l k; unfold spec_l02Reach.f; exact zm7
theorem spec_l02Reach.calls (k : Nat) (aD : Int) (aH : Option Addr) (aG : Nat) (aC : List (S76)) (r : List Int) (w : World) (hr0_1 : Kd.C k76 w aH aC.length aC) (hc0_1 : aC.length ≤ aG) (h : spec_l02Reach.f k aD aC = some r) :
  Calls Try.prog 65 #[.agg #[.int .i64 aD, .slice aH aC.length aG]] w fun e w' => ∃ v0_ : Value, e = .returned (v0_) ∧ Kd.R (Kd.int .i64) 3 w' w.heap.size (fun _ => True) v0_ r ∧ Below w.heap.size w w' := by
 have hu30 := Try.underlying30; have hu76 := Try.underlying76; have cB := zK_ hr0_1; have bO := zK_ hc0_1; clear hr0_1 hc0_1; have HB := zK_ (Below.refl w.heap.size w); have H : (spec_l02Reach.l0 k (([0] : List Int)) 0 aD aC) = some r := h; clear h; obtain ⟨jF, hy_⟩ : ∃ y_ : List Int, y_ = (([0] : List Int)) := ⟨_, rfl⟩; (replace H : (spec_l02Reach.l0 k jF 0 aD aC) = some r := zzY); have iN := zK_ hy_; clear hy_; have H' := zK_ H; clear H; go_enter Try.func65, Try.ntmps65; (go_wp2_with (first | ((with_reducible refine gate_dst (N := 1) rfl ?_); refine box_event ?hg (N := 1) ?hd (cs := #[.int .i64 aD, .slice aH aC.length aG]) (t := 30) ?hr ?_; (case hd => rfl); (case hg => rfl); (case hr => exact zz21); intro aE hg w2 hbox hb; have n_ := zA4 (below_step zz2 hb) hbox (zz18 : w.heap.size ≤ aE) (zz18 : w.heap.size ≤ aE); clear HB; obtain ⟨HB, aA, GW101, GE101⟩ := n_; clear hb hbox hg) | ((with_reducible refine gate_dst (N := 7) rfl ?_); refine Kd.R_lit (Kd.int .i64) _ 3 ?hg (N := 7) ?hd (xs := ([0] : List Int)) (inner := [.int .i64 0]) (ok := fun _ => True) (okp := fun _ => True) ?hr ?hp (fun _ hk => hk) trivial (Below.refl _ _) (Nat.le_refl _) (by simp) ?_; (case hd => rfl); (case hg => rfl); (case hr => exact zz21); (case hp => exact (Reps.one (show Kd.M (Kd.int .i64) _ _ _ 0 [.int .i64 0] from rfl) (Reps.none _ _))); intro v103 w3 ho4 hb hg_ hnew_; clear hg_ hnew_; (first | rw [← iN.out] at ho4 | (simp only [Int.reduceToNat] at ho4; rw [← iN.out] at ho4)); have n_ := zA3 (Kd.R_lower ho4 (below_size zz0)) (blk_below (g := aE) (o := .cells #[.int .i64 aD, .slice aH aC.length aG] 30 (0, 0)) zz1 hb) (below_step zz0 hb); clear aA HB; obtain ⟨cN, aA, HB⟩ := n_; clear hb ho4))); (repeat (go_quiet (first | ((with_reducible refine gate_dst (N := 1) rfl ?_); refine box_event ?hg (N := 1) ?hd (cs := #[.int .i64 aD, .slice aH aC.length aG]) (t := 30) ?hr ?_; (case hd => rfl); (case hg => rfl); (case hr => exact zz21); intro aE hg w2 hbox hb; have n_ := zA4 (below_step zz2 hb) hbox (zz18 : w.heap.size ≤ aE) (zz18 : w.heap.size ≤ aE); clear HB; obtain ⟨HB, aA, GW101, GE101⟩ := n_; clear hb hbox hg) | ((with_reducible refine gate_dst (N := 7) rfl ?_); refine Kd.R_lit (Kd.int .i64) _ 3 ?hg (N := 7) ?hd (xs := ([0] : List Int)) (inner := [.int .i64 0]) (ok := fun _ => True) (okp := fun _ => True) ?hr ?hp (fun _ hk => hk) trivial (Below.refl _ _) (Nat.le_refl _) (by simp) ?_; (case hd => rfl); (case hg => rfl); (case hr => exact zz21); (case hp => exact (Reps.one (show Kd.M (Kd.int .i64) _ _ _ 0 [.int .i64 0] from rfl) (Reps.none _ _))); intro v103 w3 ho4 hb hg_ hnew_; clear hg_ hnew_; (first | rw [← iN.out] at ho4 | (simp only [Int.reduceToNat] at ho4; rw [← iN.out] at ho4)); have n_ := zA3 (Kd.R_lower ho4 (below_size zz0)) (blk_below (g := aE) (o := .cells #[.int .i64 aD, .slice aH aC.length aG] 30 (0, 0)) zz1 hb) (below_step zz0 hb); clear aA HB; obtain ⟨cN, aA, HB⟩ := n_; clear hb ho4)); try go_wp2_with (first | ((with_reducible refine gate_dst (N := 1) rfl ?_); refine box_event ?hg (N := 1) ?hd (cs := #[.int .i64 aD, .slice aH aC.length aG]) (t := 30) ?hr ?_; (case hd => rfl); (case hg => rfl); (case hr => exact zz21); intro aE hg w2 hbox hb; have n_ := zA4 (below_step zz2 hb) hbox (zz18 : w.heap.size ≤ aE) (zz18 : w.heap.size ≤ aE); clear HB; obtain ⟨HB, aA, GW101, GE101⟩ := n_; clear hb hbox hg) | ((with_reducible refine gate_dst (N := 7) rfl ?_); refine Kd.R_lit (Kd.int .i64) _ 3 ?hg (N := 7) ?hd (xs := ([0] : List Int)) (inner := [.int .i64 0]) (ok := fun _ => True) (okp := fun _ => True) ?hr ?hp (fun _ hk => hk) trivial (Below.refl _ _) (Nat.le_refl _) (by simp) ?_; (case hd => rfl); (case hg => rfl); (case hr => exact zz21); (case hp => exact (Reps.one (show Kd.M (Kd.int .i64) _ _ _ 0 [.int .i64 0] from rfl) (Reps.none _ _))); intro v103 w3 ho4 hb hg_ hnew_; clear hg_ hnew_; (first | rw [← iN.out] at ho4 | (simp only [Int.reduceToNat] at ho4; rw [← iN.out] at ho4)); have n_ := zA3 (Kd.R_lower ho4 (below_size zz0)) (blk_below (g := aE) (o := .cells #[.int .i64 aD, .slice aH aC.length aG] 30 (0, 0)) zz1 hb) (below_step zz0 hb); clear aA HB; obtain ⟨cN, aA, HB⟩ := n_; clear hb ho4)))); (go_loopg [3, 4] k (fun kq v3 v4 w' => ∃ (dF : List Int) (bQ : Int), v4 = .int .i64 bQ ∧ Aside0 (spec_l02Reach.l0 kq dF bQ aD aC = some r) ∧ Aside0 (kq ≤ k) ∧ Aside0 (Kd.R (Kd.int .i64) 3 w' w.heap.size (fun _ => True) v3 dF) ∧ Aside0 (w'.heap[aE]? = some (.cells #[.int .i64 aD, (.slice aH aC.length aG)] 30 (0, 0))) ∧ Aside0 (Below w.heap.size w w'))); case atStart => exact ⟨(jF), (0), zz6, H', ⟨Nat.le_refl _⟩, ⟨zz85⟩, ⟨zz1⟩, ⟨zz0⟩⟩
 case round =>
  clear H'; (try clear p2); obtain ⟨dF, bQ, rfl, HA, HK1, bG, aA, HB⟩ := hrel
  cases gk with
  | zero => exact absurd HA.out (by simp [spec_l02Reach.l0])
  | succ k1 =>
   have H := HA.out; clear HA; simp only [spec_l02Reach.l0] at H; by_cases c5 : bQ < (dF.length : Int); rotate_left
   ·rw [if_neg c5] at H; have fX := decide_eq_false c5; clear c5; obtain rfl := Option.some.inj H; obtain ⟨Ao65, co65, qB⟩ := Kd.R_slice bG.out; subst qB; go_wp2; (repeat (go_quiet (fail); try go_wp2)); go_ret; exact ⟨_, zz10, zz33, zz0⟩
   rw [if_pos c5] at H; have fX := decide_eq_true c5; clear c5; have H' := zK_ H; clear H; obtain ⟨Ao6, co6, RK⟩ := Kd.R_slice bG.out; subst RK; have f8 := zC20 aA; have f7 := zC21 aA; have f6 := blk_frozen aA.out 0; have f4 := blk_frozen aA.out 1; go_wp2; (repeat (go_quiet (fail); try go_wp2)); (go_loopg [3, 17] k1 (fun kq v3 v17 w' => ∃ (cC : List Int) (a6 : Int), v17 = .int .i64 a6 ∧ Aside0 (spec_l02Reach.l1 kq cC bQ aC (aC.length : Int) a6 aD aC = some r) ∧ Aside0 (kq ≤ k1) ∧ Aside0 (Kd.R (Kd.int .i64) 3 w' w.heap.size (fun _ => True) v3 cC) ∧ Aside0 (w'.heap[aE]? = some (.cells #[.int .i64 aD, (.slice aH aC.length aG)] 30 (0, 0))) ∧ Aside0 (Below w.heap.size w w'))); case atStart => exact ⟨(dF), (0), zz6, H', ⟨Nat.le_refl _⟩, ⟨zz33⟩, ⟨zz1⟩, ⟨zz0⟩⟩
   case round =>
    clear H'; (try clear p2); (try clear c5); (try clear fX); (try clear c6); (try clear f8); (try clear f7); (try clear f6); (try clear f4); (try clear p2); obtain ⟨cC, a6, rfl, HA, HK2, bG, aA, HB⟩ := hrel
    cases gk with
    | zero => exact absurd HA.out (by simp [spec_l02Reach.l1])
    | succ k2 =>
     have H := HA.out; clear HA; simp only [spec_l02Reach.l1] at H; by_cases c8 : a6 < (aC.length : Int); rotate_left
     ·rw [if_neg c8] at H; have gV := decide_eq_false c8; clear c8; have H' := zK_ H; clear H; go_wp2; (repeat (go_quiet (fail); try go_wp2)); go_roundg k2; (case measure => have := HK1.out; have := HK2.out; omega); case rel => exact ⟨(cC), (wrap64 (bQ + 1)), zz6, H', ⟨by have := HK1.out; have := HK2.out; omega⟩, ⟨zz33⟩, ⟨zz1⟩, ⟨zz0⟩⟩
     rw [if_pos c8] at H; have gV := decide_eq_true c8; clear c8; by_cases c9 : 0 ≤ a6; rotate_left
     ·rw [if_neg c9] at H; exact absurd H (by simp)
     rw [if_pos c9] at H; have lA := decide_eq_true c9; clear c9; by_cases c10 : a6 < (aC.length : Int); rotate_left
     ·rw [if_neg c10] at H; exact absurd H (by simp)
     rw [if_pos c10] at H; have g6 := decide_eq_true c10; clear c10; have HC11 := zK_ H; clear H; have p105 : 0 ≤ (a6 : Int) := of_decide_eq_true zz4; have q105 : a6 < (aC.length : Int) := of_decide_eq_true zz4; obtain ⟨dW, e105, b9, dD⟩ := at_T76 cB.out a6 p105 q105; cases e105; replace b9 := (HB.out.cell (World.block_lt_of_cell? w _ b9)).trans b9; replace dD := (HB.out.cell (World.block_lt_of_cell? w _ dD)).trans dD; replace p105 := eq_true p105; replace q105 := eq_true q105; (go_upto_region 8 with (first | ((with_reducible refine gate_dst (N := 6) rfl ?_); refine box_event ?hg (N := 6) ?hd (cs := #[.int .i64 0, .int .i64 0]) (t := 76) ?hr ?_; (case hd => rfl); (case hg => rfl); (case hr => exact zz21); intro bI hg w12 hbox hb; have n_ := zA8 (Kd.R_below zz33 hb) (blk_below (g := aE) (o := .cells #[.int .i64 aD, .slice (some dW) aC.length aG] 30 (0, 0)) zz1 hb) (below_step zz0 hb) hbox (zz47 : w.heap.size ≤ bI) (zz47 : w.heap.size ≤ bI) (by rw [hg]; exact Nat.ne_of_lt (blk_lt (g := aE) (o := .cells #[.int .i64 aD, .slice (some dW) aC.length aG] 30 (0, 0)) zz1) : aE ≠ bI) (by rw [hg]; exact Nat.ne_of_gt (blk_lt (g := aE) (o := .cells #[.int .i64 aD, .slice (some dW) aC.length aG] 30 (0, 0)) zz1) : bI ≠ aE); clear bG aA HB; obtain ⟨bG, aA, HB, aJ, GW106, GE106, cW, dC⟩ := n_; clear hb hbox hg; have sI := dC.out; have sH := cW.out; have g4 := zC20 aJ; have g3 := zC21 aJ; have g2 := blk_frozen aJ.out 0; have gJ := blk_frozen aJ.out 1))); (repeat (go_quiet (first | ((with_reducible refine gate_dst (N := 6) rfl ?_); refine box_event ?hg (N := 6) ?hd (cs := #[.int .i64 0, .int .i64 0]) (t := 76) ?hr ?_; (case hd => rfl); (case hg => rfl); (case hr => exact zz21); intro bI hg w12 hbox hb; have n_ := zA8 (Kd.R_below zz33 hb) (blk_below (g := aE) (o := .cells #[.int .i64 aD, .slice (some dW) aC.length aG] 30 (0, 0)) zz1 hb) (below_step zz0 hb) hbox (zz47 : w.heap.size ≤ bI) (zz47 : w.heap.size ≤ bI) (by rw [hg]; exact Nat.ne_of_lt (blk_lt (g := aE) (o := .cells #[.int .i64 aD, .slice (some dW) aC.length aG] 30 (0, 0)) zz1) : aE ≠ bI) (by rw [hg]; exact Nat.ne_of_gt (blk_lt (g := aE) (o := .cells #[.int .i64 aD, .slice (some dW) aC.length aG] 30 (0, 0)) zz1) : bI ≠ aE); clear bG aA HB; obtain ⟨bG, aA, HB, aJ, GW106, GE106, cW, dC⟩ := n_; clear hb hbox hg; have sI := dC.out; have sH := cW.out; have g4 := zC20 aJ; have g3 := zC21 aJ; have g2 := blk_frozen aJ.out 0; have gJ := blk_frozen aJ.out 1)); go_upto_region 8 with (first | ((with_reducible refine gate_dst (N := 6) rfl ?_); refine box_event ?hg (N := 6) ?hd (cs := #[.int .i64 0, .int .i64 0]) (t := 76) ?hr ?_; (case hd => rfl); (case hg => rfl); (case hr => exact zz21); intro bI hg w12 hbox hb; have n_ := zA8 (Kd.R_below zz33 hb) (blk_below (g := aE) (o := .cells #[.int .i64 aD, .slice (some dW) aC.length aG] 30 (0, 0)) zz1 hb) (below_step zz0 hb) hbox (zz47 : w.heap.size ≤ bI) (zz47 : w.heap.size ≤ bI) (by rw [hg]; exact Nat.ne_of_lt (blk_lt (g := aE) (o := .cells #[.int .i64 aD, .slice (some dW) aC.length aG] 30 (0, 0)) zz1) : aE ≠ bI) (by rw [hg]; exact Nat.ne_of_gt (blk_lt (g := aE) (o := .cells #[.int .i64 aD, .slice (some dW) aC.length aG] 30 (0, 0)) zz1) : bI ≠ aE); clear bG aA HB; obtain ⟨bG, aA, HB, aJ, GW106, GE106, cW, dC⟩ := n_; clear hb hbox hg; have sI := dC.out; have sH := cW.out; have g4 := zC20 aJ; have g3 := zC21 aJ; have g2 := blk_frozen aJ.out 0; have gJ := blk_frozen aJ.out 1)))); (try simp only [Act.put, List.setIfInBounds_toArray, List.set_cons_zero, List.set_cons_succ]); go_cut [34] (fun v34 wc => ∃ (kq : Nat) (o5 : Bool), v34 = .bool o5 ∧ Aside0 (spec_l02Reach.j2 kq cC bQ aC (aC.length : Int) a6 o5 aD aC ((rd_T76 aC a6).f0) ((rd_T76 aC a6).f1) = some r) ∧ Aside0 (kq ≤ k2) ∧ Aside0 (Kd.R (Kd.int .i64) 3 wc w.heap.size (fun _ => True) u3 cC) ∧ Aside0 (wc.heap[aE]? = some (.cells #[.int .i64 aD, (.slice (some dW) aC.length aG)] 30 (0, 0))) ∧ Aside0 (wc.heap[bI]? = some (.cells #[.int .i64 ((rd_T76 aC a6).f0), .int .i64 ((rd_T76 aC a6).f1)] 76 (0, 0))) ∧ Aside0 (Below w.heap.size w wc))
     case first =>
      have H := HC11.out; clear HC11; by_cases c15 : 0 ≤ bQ; rotate_left
      ·rw [if_neg c15] at H; exact absurd H (by simp)
      rw [if_pos c15] at H; have i6 := decide_eq_true c15; clear c15; (first | rw [i6] | (simp only [i64_w, i32_w]; rw [i6]) | skip); by_cases c16 : bQ < (cC.length : Int); rotate_left
      ·rw [if_neg c16] at H; exact absurd H (by simp)
      rw [if_pos c16] at H; have kD := decide_eq_true c16; clear c16; by_cases c17 : ((rd_T76 aC a6).f0) = (rd cC bQ); rotate_left
      ·rw [if_neg c17] at H; have jR : (((rd_T76 aC a6).f0) == (rd cC bQ)) = false := beq_eq_false_iff_ne.mpr c17; have yJ : (((rd_T76 aC a6).f0) != (rd cC bQ)) = true := bne_iff_ne.mpr c17; have H' := zK_ H; clear H; have t8 := dC.out; have t7 := cW.out; have iX := zC20 aJ; have iW := zC21 aJ; have iV := blk_frozen aJ.out 0; have iU := blk_frozen aJ.out 1; obtain ⟨Ao24, co24, tQ⟩ := Kd.R_slice bG.out; subst tQ; have p107 : 0 ≤ (bQ : Int) := of_decide_eq_true zz4; have q107 : bQ < (cC.length : Int) := of_decide_eq_true zz4; obtain ⟨nD, e107, dS⟩ := Kd.at_int (Kd.R_reads' bG.out).2.2 bQ p107 q107; cases e107; have hn107_0 : nD.block ≠ bI := Kd.own_blk (Kd.R_ne bG.out aJ.out (by decide)); have hn107_1 : nD.block ≠ bI := Kd.own_blk (Kd.R_ne bG.out aJ.out (by decide)); replace dS := (cell_far (p := ⟨bI, 0, none⟩) (by first | (rw [add_block]; exact hn107_0) | (show (Addr.add _ _).block ≠ _; rw [add_block]; exact hn107_0) | exact hn107_0) (.int .i64 ((rd_T76 aC a6).f0))).trans dS; replace dS := (cell_far (p := ⟨bI, 1, none⟩) (by first | (rw [add_block]; exact hn107_1) | (show (Addr.add _ _).block ≠ _; rw [add_block]; exact hn107_1) | exact hn107_1) (.int .i64 ((rd_T76 aC a6).f1))).trans dS; (try have hy107_0 := fun (n_ : Nat) => (show ((((w12.drewN n_).setCell ⟨bI, 0, none⟩ (.int .i64 ((rd_T76 aC a6).f0))).setCell ⟨bI, 1, none⟩ (.int .i64 ((rd_T76 aC a6).f1)))).cell? _ = some _ from dS)); clear hn107_0; clear hn107_1; replace p107 := eq_true p107; replace q107 := eq_true q107; go_wp2; (repeat (go_quiet (fail); try go_wp2)); (go_meet); case rel => exact ⟨_, (false), zz6, H', ⟨by have := HK1.out; have := HK2.out; first | omega | exact Nat.le_refl _⟩, ⟨zz139⟩, ⟨zz90⟩, ⟨zz123⟩, ⟨zz12⟩⟩
      rw [if_pos c17] at H; have jR : (((rd_T76 aC a6).f0) == (rd cC bQ)) = true := beq_iff_eq.mpr c17; have yJ : (((rd_T76 aC a6).f0) != (rd cC bQ)) = false := bne_eq_false_iff_eq.mpr c17; clear c17; obtain ⟨d9, A180, H⟩ := zO_ H; (try dsimp only at H); have A18 := zK_ A180; clear A180; have H' := zK_ H; clear H; have xX := dC.out; have xT := cW.out; have m5 := zC20 aJ; have m4 := zC21 aJ; have lU := blk_frozen aJ.out 0; have lT := blk_frozen aJ.out 1; obtain ⟨Ao21, co21, tR⟩ := Kd.R_slice bG.out; subst tR; have p107 : 0 ≤ (bQ : Int) := of_decide_eq_true zz4; have q107 : bQ < (cC.length : Int) := of_decide_eq_true zz4; obtain ⟨nD, e107, dS⟩ := Kd.at_int (Kd.R_reads' bG.out).2.2 bQ p107 q107; cases e107; have hn107_0 : nD.block ≠ bI := Kd.own_blk (Kd.R_ne bG.out aJ.out (by decide)); have hn107_1 : nD.block ≠ bI := Kd.own_blk (Kd.R_ne bG.out aJ.out (by decide)); replace dS := (cell_far (p := ⟨bI, 0, none⟩) (by first | (rw [add_block]; exact hn107_0) | (show (Addr.add _ _).block ≠ _; rw [add_block]; exact hn107_0) | exact hn107_0) (.int .i64 ((rd_T76 aC a6).f0))).trans dS; replace dS := (cell_far (p := ⟨bI, 1, none⟩) (by first | (rw [add_block]; exact hn107_1) | (show (Addr.add _ _).block ≠ _; rw [add_block]; exact hn107_1) | exact hn107_1) (.int .i64 ((rd_T76 aC a6).f1))).trans dS; (try have hy107_0 := fun (n_ : Nat) => (show ((((w12.drewN n_).setCell ⟨bI, 0, none⟩ (.int .i64 ((rd_T76 aC a6).f0))).setCell ⟨bI, 1, none⟩ (.int .i64 ((rd_T76 aC a6).f1)))).cell? _ = some _ from dS)); clear hn107_0; clear hn107_1; replace p107 := eq_true p107; replace q107 := eq_true q107; (go_wp2_with (first | (go_at_call 95; (with_reducible refine (spec_l02Has.calls k2 _ _ cC ((rd_T76 aC a6).f1) d9 _ ?side1 ?side2 A18.out).mono ?_); (case side1 => refine (Kd.R_reads' (e := 3) (base := w.heap.size) (ok := fun k_ => True) (n := cC.length) (c := co21) ?_).2.2; exact zz98); (case side2 => exact (Kd.R_reads' bG.out).2.1); rintro e w' ⟨rfl, ⟨nd, rfl⟩⟩; (try first | exact ⟨rfl, _, World.drewN_drewN _ _ _⟩ | exact ⟨rfl, _, Eq.trans (World.drewN_drewN _ _ _) (congrArg (World.drewN _) (Nat.add_assoc _ _ _))⟩)))); (repeat (go_quiet (first | (go_at_call 95; (with_reducible refine (spec_l02Has.calls k2 _ _ cC ((rd_T76 aC a6).f1) d9 _ ?side1 ?side2 A18.out).mono ?_); (case side1 => refine (Kd.R_reads' (e := 3) (base := w.heap.size) (ok := fun k_ => True) (n := cC.length) (c := co21) ?_).2.2; exact zz98); (case side2 => exact (Kd.R_reads' bG.out).2.1); rintro e w' ⟨rfl, ⟨nd, rfl⟩⟩; (try first | exact ⟨rfl, _, World.drewN_drewN _ _ _⟩ | exact ⟨rfl, _, Eq.trans (World.drewN_drewN _ _ _) (congrArg (World.drewN _) (Nat.add_assoc _ _ _))⟩))); try go_wp2_with (first | (go_at_call 95; (with_reducible refine (spec_l02Has.calls k2 _ _ cC ((rd_T76 aC a6).f1) d9 _ ?side1 ?side2 A18.out).mono ?_); (case side1 => refine (Kd.R_reads' (e := 3) (base := w.heap.size) (ok := fun k_ => True) (n := cC.length) (c := co21) ?_).2.2; exact zz98); (case side2 => exact (Kd.R_reads' bG.out).2.1); rintro e w' ⟨rfl, ⟨nd, rfl⟩⟩; (try first | exact ⟨rfl, _, World.drewN_drewN _ _ _⟩ | exact ⟨rfl, _, Eq.trans (World.drewN_drewN _ _ _) (congrArg (World.drewN _) (Nat.add_assoc _ _ _))⟩))))); (go_meet); case rel => exact ⟨_, (!d9), zz6, H', ⟨by have := HK1.out; have := HK2.out; first | omega | exact Nat.le_refl _⟩, ⟨zz139⟩, ⟨zz90⟩, ⟨zz123⟩, ⟨zz12⟩⟩
     case rest =>
      clear HC11; (try clear c1); (try clear p1); (try clear q1); (try clear hx1); (try clear c2); (try clear p2); (try clear c5); (try clear fX); (try clear c6); (try clear c8); (try clear gV); (try clear c9); (try clear lA); (try clear c10); (try clear g6); (try clear p10); (try clear q10); (try clear hx10); (try clear c13); (try clear c15); (try clear i6); (try clear c16); (try clear kD); (try clear c17); (try clear jR); (try clear yJ); (try clear c19); (try clear c22); (try clear g4); (try clear g3); (try clear m5); (try clear m4); (try clear iX); (try clear iW); (try clear f8); (try clear f7); (try clear g2); (try clear gJ); (try clear lU); (try clear lT); (try clear iV); (try clear iU); (try clear f6); (try clear f4); (try clear b9); (try clear dD); (try clear dS); (try clear p105); (try clear p107); (try clear p2); (try clear q105); (try clear q107); obtain ⟨kq, o5, rfl, HA, HJ10, bG, aA, aJ, HB⟩ := hcut
      cases kq with
      | zero => exact absurd HA.out (by simp [spec_l02Reach.j2])
      | succ kj10 =>
       have H := HA.out; clear HA; simp only [spec_l02Reach.j2] at H; by_cases c25 : o5 = true
       ·subst c25; rw [if_pos rfl] at H; by_cases c26 : cC.length < 17592186044416; rotate_left
        ·rw [if_neg c26] at H; exact absurd H (by simp)
        rw [if_pos c26] at H; have nE := zK_ c26; clear c26; obtain ⟨dP, hy_⟩ : ∃ y_ : List Int, y_ = (cC ++ [((rd_T76 aC a6).f1)]) := ⟨_, rfl⟩; (replace H : (if 0 ≤ bQ then (if bQ < (dP.length : Int) then (if ((rd_T76 aC a6).f1) = (rd dP bQ) then ((spec_l02Has.f kj10 dP ((rd_T76 aC a6).f0)).bind fun fD => (if fD = true then (spec_l02Reach.l1 kj10 dP bQ aC (aC.length : Int) (wrap64 (a6 + 1)) aD aC) else (if dP.length < 17592186044416 then (spec_l02Reach.l1 kj10 (dP ++ [((rd_T76 aC a6).f0)]) bQ aC (aC.length : Int) (wrap64 (a6 + 1)) aD aC) else (none)))) else (spec_l02Reach.l1 kj10 dP bQ aC (aC.length : Int) (wrap64 (a6 + 1)) aD aC)) else (none)) else (none)) = some r := zzY); have kG := zK_ hy_; clear hy_; by_cases c27 : 0 ≤ bQ; rotate_left
        ·rw [if_neg c27] at H; exact absurd H (by simp)
        rw [if_pos c27] at H; have FF := decide_eq_true c27; clear c27; by_cases c28 : bQ < (dP.length : Int); rotate_left
        ·rw [if_neg c28] at H; exact absurd H (by simp)
        rw [if_pos c28] at H; have tI := decide_eq_true c28; clear c28; by_cases c29 : ((rd_T76 aC a6).f1) = (rd dP bQ); rotate_left
        ·rw [if_neg c29] at H; have u1 : (((rd_T76 aC a6).f1) == (rd dP bQ)) = false := beq_eq_false_iff_ne.mpr c29; have yF : (((rd_T76 aC a6).f1) != (rd dP bQ)) = true := bne_iff_ne.mpr c29; have H' := zK_ H; clear H; have BD := dC.out; have AP := cW.out; have sY := zC20 aJ; have sX := zC21 aJ; have sO := blk_frozen aJ.out 0; have sN := blk_frozen aJ.out 1; (go_wp2_with (first | ((with_reducible refine gate_builtin (b := .append) (xs := #[.tmp 35, .tmp 38]) rfl ?_); at_builtin; refine Kd.R_append (Kd.int .i64) (w0 := w) w.heap.size rfl (.tmp 35) (.tmp 38) 26 3 (.int .i64 0) 8 rfl Try.underlying26 info3 rfl (by decide) (by omega) u3 cC ((rd_T76 aC a6).f1) [.int .i64 ((rd_T76 aC a6).f1)] (fun _ => True) (fun _ => False) rfl rfl ?aP (fun _ hk => hk.elim) ?aF ?aO ?aB ?aS ?aL ?_; (case aP => exact rfl); (case aB => exact zz12); (case aF => exact (fun _ _ => trivial)); (case aO => exact zz33); (case aS => exact (below_size zz12)); (case aL => have := nE.out; omega); intro v110 w46 ho hb hg hat; rw [← kG.out] at ho; have n_ := zA4 (blk_grown (g := aE) (o := .cells #[.int .i64 aD, .slice (some dW) aC.length aG] 30 (0, 0)) zz1 hg (Kd.R_ne bG.out aA.out (by decide))) (blk_grown (g := bI) (o := .cells #[.int .i64 ((rd_T76 aC a6).f0), .int .i64 ((rd_T76 aC a6).f1)] 76 (0, 0)) zz20 hg (Kd.R_ne bG.out aJ.out (by decide))) hb ho; clear aA aJ HB bG; obtain ⟨aA, aJ, HB, dE⟩ := n_; clear ho hb hg hat; have sW := zC20 aJ; have sV := zC21 aJ; have sM := blk_frozen aJ.out 0; have sL := blk_frozen aJ.out 1; obtain ⟨Ao48, co48, uR⟩ := Kd.R_slice dE.out; subst uR; have p112 : 0 ≤ (bQ : Int) := of_decide_eq_true zz4; have q112 : bQ < (dP.length : Int) := of_decide_eq_true zz4; obtain ⟨k6, e112, g1⟩ := Kd.at_int (Kd.R_reads' dE.out).2.2 bQ p112 q112; cases e112; replace p112 := eq_true p112; replace q112 := eq_true q112))); (repeat (go_quiet (first | ((with_reducible refine gate_builtin (b := .append) (xs := #[.tmp 35, .tmp 38]) rfl ?_); at_builtin; refine Kd.R_append (Kd.int .i64) (w0 := w) w.heap.size rfl (.tmp 35) (.tmp 38) 26 3 (.int .i64 0) 8 rfl Try.underlying26 info3 rfl (by decide) (by omega) u3 cC ((rd_T76 aC a6).f1) [.int .i64 ((rd_T76 aC a6).f1)] (fun _ => True) (fun _ => False) rfl rfl ?aP (fun _ hk => hk.elim) ?aF ?aO ?aB ?aS ?aL ?_; (case aP => exact rfl); (case aB => exact zz12); (case aF => exact (fun _ _ => trivial)); (case aO => exact zz33); (case aS => exact (below_size zz12)); (case aL => have := nE.out; omega); intro v110 w46 ho hb hg hat; rw [← kG.out] at ho; have n_ := zA4 (blk_grown (g := aE) (o := .cells #[.int .i64 aD, .slice (some dW) aC.length aG] 30 (0, 0)) zz1 hg (Kd.R_ne bG.out aA.out (by decide))) (blk_grown (g := bI) (o := .cells #[.int .i64 ((rd_T76 aC a6).f0), .int .i64 ((rd_T76 aC a6).f1)] 76 (0, 0)) zz20 hg (Kd.R_ne bG.out aJ.out (by decide))) hb ho; clear aA aJ HB bG; obtain ⟨aA, aJ, HB, dE⟩ := n_; clear ho hb hg hat; have sW := zC20 aJ; have sV := zC21 aJ; have sM := blk_frozen aJ.out 0; have sL := blk_frozen aJ.out 1; obtain ⟨Ao48, co48, uR⟩ := Kd.R_slice dE.out; subst uR; have p112 : 0 ≤ (bQ : Int) := of_decide_eq_true zz4; have q112 : bQ < (dP.length : Int) := of_decide_eq_true zz4; obtain ⟨k6, e112, g1⟩ := Kd.at_int (Kd.R_reads' dE.out).2.2 bQ p112 q112; cases e112; replace p112 := eq_true p112; replace q112 := eq_true q112)); try go_wp2_with (first | ((with_reducible refine gate_builtin (b := .append) (xs := #[.tmp 35, .tmp 38]) rfl ?_); at_builtin; refine Kd.R_append (Kd.int .i64) (w0 := w) w.heap.size rfl (.tmp 35) (.tmp 38) 26 3 (.int .i64 0) 8 rfl Try.underlying26 info3 rfl (by decide) (by omega) u3 cC ((rd_T76 aC a6).f1) [.int .i64 ((rd_T76 aC a6).f1)] (fun _ => True) (fun _ => False) rfl rfl ?aP (fun _ hk => hk.elim) ?aF ?aO ?aB ?aS ?aL ?_; (case aP => exact rfl); (case aB => exact zz12); (case aF => exact (fun _ _ => trivial)); (case aO => exact zz33); (case aS => exact (below_size zz12)); (case aL => have := nE.out; omega); intro v110 w46 ho hb hg hat; rw [← kG.out] at ho; have n_ := zA4 (blk_grown (g := aE) (o := .cells #[.int .i64 aD, .slice (some dW) aC.length aG] 30 (0, 0)) zz1 hg (Kd.R_ne bG.out aA.out (by decide))) (blk_grown (g := bI) (o := .cells #[.int .i64 ((rd_T76 aC a6).f0), .int .i64 ((rd_T76 aC a6).f1)] 76 (0, 0)) zz20 hg (Kd.R_ne bG.out aJ.out (by decide))) hb ho; clear aA aJ HB bG; obtain ⟨aA, aJ, HB, dE⟩ := n_; clear ho hb hg hat; have sW := zC20 aJ; have sV := zC21 aJ; have sM := blk_frozen aJ.out 0; have sL := blk_frozen aJ.out 1; obtain ⟨Ao48, co48, uR⟩ := Kd.R_slice dE.out; subst uR; have p112 : 0 ≤ (bQ : Int) := of_decide_eq_true zz4; have q112 : bQ < (dP.length : Int) := of_decide_eq_true zz4; obtain ⟨k6, e112, g1⟩ := Kd.at_int (Kd.R_reads' dE.out).2.2 bQ p112 q112; cases e112; replace p112 := eq_true p112; replace q112 := eq_true q112)))); go_roundg kj10; (case measure => have := HK1.out; have := HK2.out; have := HJ10.out; omega); case rel => exact ⟨(dP), (wrap64 (a6 + 1)), zz6, H', ⟨by have := HK1.out; have := HK2.out; have := HJ10.out; omega⟩, ⟨by (with_reducible repeat (first | apply Kd.R_alloc | apply Kd.R_drewN | apply Kd.R_drew)); exact dE.out⟩, ⟨zz1⟩, ⟨zz12⟩⟩
        rw [if_pos c29] at H; have u1 : (((rd_T76 aC a6).f1) == (rd dP bQ)) = true := beq_iff_eq.mpr c29; have yF : (((rd_T76 aC a6).f1) != (rd dP bQ)) = false := bne_eq_false_iff_eq.mpr c29; clear c29; obtain ⟨fD, A300, H⟩ := zO_ H; (try dsimp only at H); have A30 := zK_ A300; clear A300; by_cases c31 : fD = true
        ·subst c31; rw [if_pos rfl] at H; have H' := zK_ H; clear H; have PW := dC.out; have OR := cW.out; have xJ := zC20 aJ; have xI := zC21 aJ; have wR := blk_frozen aJ.out 0; have wQ := blk_frozen aJ.out 1; (go_wp2_with (first | ((with_reducible refine gate_builtin (b := .append) (xs := #[.tmp 35, .tmp 38]) rfl ?_); at_builtin; refine Kd.R_append (Kd.int .i64) (w0 := w) w.heap.size rfl (.tmp 35) (.tmp 38) 26 3 (.int .i64 0) 8 rfl Try.underlying26 info3 rfl (by decide) (by omega) u3 cC ((rd_T76 aC a6).f1) [.int .i64 ((rd_T76 aC a6).f1)] (fun _ => True) (fun _ => False) rfl rfl ?aP (fun _ hk => hk.elim) ?aF ?aO ?aB ?aS ?aL ?_; (case aP => exact rfl); (case aB => exact zz12); (case aF => exact (fun _ _ => trivial)); (case aO => exact zz33); (case aS => exact (below_size zz12)); (case aL => have := nE.out; omega); intro v110 w34 ho hb hg hat; rw [← kG.out] at ho; have n_ := zA4 (blk_grown (g := aE) (o := .cells #[.int .i64 aD, .slice (some dW) aC.length aG] 30 (0, 0)) zz1 hg (Kd.R_ne bG.out aA.out (by decide))) (blk_grown (g := bI) (o := .cells #[.int .i64 ((rd_T76 aC a6).f0), .int .i64 ((rd_T76 aC a6).f1)] 76 (0, 0)) zz20 hg (Kd.R_ne bG.out aJ.out (by decide))) hb ho; clear aA aJ HB bG; obtain ⟨aA, aJ, HB, dE⟩ := n_; clear ho hb hg hat; have j8 := zC20 aJ; have j7 := zC21 aJ; have j1 := blk_frozen aJ.out 0; have jZ := blk_frozen aJ.out 1; obtain ⟨Ao36, co36, uS⟩ := Kd.R_slice dE.out; subst uS; have p112 : 0 ≤ (bQ : Int) := of_decide_eq_true zz4; have q112 : bQ < (dP.length : Int) := of_decide_eq_true zz4; obtain ⟨k6, e112, g1⟩ := Kd.at_int (Kd.R_reads' dE.out).2.2 bQ p112 q112; cases e112; replace p112 := eq_true p112; replace q112 := eq_true q112) | (go_at_call 95; (with_reducible refine (spec_l02Has.calls kj10 _ _ dP ((rd_T76 aC a6).f0) true _ ?side1 ?side2 A30.out).mono ?_); (case side1 => exact zz86); (case side2 => exact (Kd.R_reads' dE.out).2.1); rintro e w' ⟨rfl, ⟨nd, rfl⟩⟩; (try first | exact ⟨rfl, _, World.drewN_drewN _ _ _⟩ | exact ⟨rfl, _, Eq.trans (World.drewN_drewN _ _ _) (congrArg (World.drewN _) (Nat.add_assoc _ _ _))⟩)))); (repeat (go_quiet (first | ((with_reducible refine gate_builtin (b := .append) (xs := #[.tmp 35, .tmp 38]) rfl ?_); at_builtin; refine Kd.R_append (Kd.int .i64) (w0 := w) w.heap.size rfl (.tmp 35) (.tmp 38) 26 3 (.int .i64 0) 8 rfl Try.underlying26 info3 rfl (by decide) (by omega) u3 cC ((rd_T76 aC a6).f1) [.int .i64 ((rd_T76 aC a6).f1)] (fun _ => True) (fun _ => False) rfl rfl ?aP (fun _ hk => hk.elim) ?aF ?aO ?aB ?aS ?aL ?_; (case aP => exact rfl); (case aB => exact zz12); (case aF => exact (fun _ _ => trivial)); (case aO => exact zz33); (case aS => exact (below_size zz12)); (case aL => have := nE.out; omega); intro v110 w34 ho hb hg hat; rw [← kG.out] at ho; have n_ := zA4 (blk_grown (g := aE) (o := .cells #[.int .i64 aD, .slice (some dW) aC.length aG] 30 (0, 0)) zz1 hg (Kd.R_ne bG.out aA.out (by decide))) (blk_grown (g := bI) (o := .cells #[.int .i64 ((rd_T76 aC a6).f0), .int .i64 ((rd_T76 aC a6).f1)] 76 (0, 0)) zz20 hg (Kd.R_ne bG.out aJ.out (by decide))) hb ho; clear aA aJ HB bG; obtain ⟨aA, aJ, HB, dE⟩ := n_; clear ho hb hg hat; have j8 := zC20 aJ; have j7 := zC21 aJ; have j1 := blk_frozen aJ.out 0; have jZ := blk_frozen aJ.out 1; obtain ⟨Ao36, co36, uS⟩ := Kd.R_slice dE.out; subst uS; have p112 : 0 ≤ (bQ : Int) := of_decide_eq_true zz4; have q112 : bQ < (dP.length : Int) := of_decide_eq_true zz4; obtain ⟨k6, e112, g1⟩ := Kd.at_int (Kd.R_reads' dE.out).2.2 bQ p112 q112; cases e112; replace p112 := eq_true p112; replace q112 := eq_true q112) | (go_at_call 95; (with_reducible refine (spec_l02Has.calls kj10 _ _ dP ((rd_T76 aC a6).f0) true _ ?side1 ?side2 A30.out).mono ?_); (case side1 => exact zz86); (case side2 => exact (Kd.R_reads' dE.out).2.1); rintro e w' ⟨rfl, ⟨nd, rfl⟩⟩; (try first | exact ⟨rfl, _, World.drewN_drewN _ _ _⟩ | exact ⟨rfl, _, Eq.trans (World.drewN_drewN _ _ _) (congrArg (World.drewN _) (Nat.add_assoc _ _ _))⟩))); try go_wp2_with (first | ((with_reducible refine gate_builtin (b := .append) (xs := #[.tmp 35, .tmp 38]) rfl ?_); at_builtin; refine Kd.R_append (Kd.int .i64) (w0 := w) w.heap.size rfl (.tmp 35) (.tmp 38) 26 3 (.int .i64 0) 8 rfl Try.underlying26 info3 rfl (by decide) (by omega) u3 cC ((rd_T76 aC a6).f1) [.int .i64 ((rd_T76 aC a6).f1)] (fun _ => True) (fun _ => False) rfl rfl ?aP (fun _ hk => hk.elim) ?aF ?aO ?aB ?aS ?aL ?_; (case aP => exact rfl); (case aB => exact zz12); (case aF => exact (fun _ _ => trivial)); (case aO => exact zz33); (case aS => exact (below_size zz12)); (case aL => have := nE.out; omega); intro v110 w34 ho hb hg hat; rw [← kG.out] at ho; have n_ := zA4 (blk_grown (g := aE) (o := .cells #[.int .i64 aD, .slice (some dW) aC.length aG] 30 (0, 0)) zz1 hg (Kd.R_ne bG.out aA.out (by decide))) (blk_grown (g := bI) (o := .cells #[.int .i64 ((rd_T76 aC a6).f0), .int .i64 ((rd_T76 aC a6).f1)] 76 (0, 0)) zz20 hg (Kd.R_ne bG.out aJ.out (by decide))) hb ho; clear aA aJ HB bG; obtain ⟨aA, aJ, HB, dE⟩ := n_; clear ho hb hg hat; have j8 := zC20 aJ; have j7 := zC21 aJ; have j1 := blk_frozen aJ.out 0; have jZ := blk_frozen aJ.out 1; obtain ⟨Ao36, co36, uS⟩ := Kd.R_slice dE.out; subst uS; have p112 : 0 ≤ (bQ : Int) := of_decide_eq_true zz4; have q112 : bQ < (dP.length : Int) := of_decide_eq_true zz4; obtain ⟨k6, e112, g1⟩ := Kd.at_int (Kd.R_reads' dE.out).2.2 bQ p112 q112; cases e112; replace p112 := eq_true p112; replace q112 := eq_true q112) | (go_at_call 95; (with_reducible refine (spec_l02Has.calls kj10 _ _ dP ((rd_T76 aC a6).f0) true _ ?side1 ?side2 A30.out).mono ?_); (case side1 => exact zz86); (case side2 => exact (Kd.R_reads' dE.out).2.1); rintro e w' ⟨rfl, ⟨nd, rfl⟩⟩; (try first | exact ⟨rfl, _, World.drewN_drewN _ _ _⟩ | exact ⟨rfl, _, Eq.trans (World.drewN_drewN _ _ _) (congrArg (World.drewN _) (Nat.add_assoc _ _ _))⟩))))); go_roundg kj10; (case measure => have := HK1.out; have := HK2.out; have := HJ10.out; omega); case rel => exact ⟨(dP), (wrap64 (a6 + 1)), zz6, H', ⟨by have := HK1.out; have := HK2.out; have := HJ10.out; omega⟩, ⟨by (with_reducible repeat (first | apply Kd.R_alloc | apply Kd.R_drewN | apply Kd.R_drew)); exact dE.out⟩, ⟨zz1⟩, ⟨zz12⟩⟩
        replace c31 := Bool.eq_false_iff.mpr c31; subst c31; rw [if_neg (show ¬ (false = true) by decide)] at H; by_cases c37 : dP.length < 17592186044416; rotate_left
        ·rw [if_neg c37] at H; exact absurd H (by simp)
        rw [if_pos c37] at H; have vM := zK_ c37; clear c37; obtain ⟨qG, hy_⟩ : ∃ y_ : List Int, y_ = (dP ++ [((rd_T76 aC a6).f0)]) := ⟨_, rfl⟩; (replace H : (spec_l02Reach.l1 kj10 qG bQ aC (aC.length : Int) (wrap64 (a6 + 1)) aD aC) = some r := zzY); have oU := zK_ hy_; clear hy_; have H' := zK_ H; clear H; have PT := dC.out; have OO := cW.out; have pS := zC20 aJ; have pR := zC21 aJ; have pG := blk_frozen aJ.out 0; have pF := blk_frozen aJ.out 1; (go_wp2_with (first | ((with_reducible refine gate_builtin (b := .append) (xs := #[.tmp 35, .tmp 38]) rfl ?_); at_builtin; refine Kd.R_append (Kd.int .i64) (w0 := w) w.heap.size rfl (.tmp 35) (.tmp 38) 26 3 (.int .i64 0) 8 rfl Try.underlying26 info3 rfl (by decide) (by omega) u3 cC ((rd_T76 aC a6).f1) [.int .i64 ((rd_T76 aC a6).f1)] (fun _ => True) (fun _ => False) rfl rfl ?aP (fun _ hk => hk.elim) ?aF ?aO ?aB ?aS ?aL ?_; (case aP => exact rfl); (case aB => exact zz12); (case aF => exact (fun _ _ => trivial)); (case aO => exact zz33); (case aS => exact (below_size zz12)); (case aL => have := nE.out; omega); intro v110 w40 ho hb hg hat; rw [← kG.out] at ho; have n_ := zA4 (blk_grown (g := aE) (o := .cells #[.int .i64 aD, .slice (some dW) aC.length aG] 30 (0, 0)) zz1 hg (Kd.R_ne bG.out aA.out (by decide))) (blk_grown (g := bI) (o := .cells #[.int .i64 ((rd_T76 aC a6).f0), .int .i64 ((rd_T76 aC a6).f1)] 76 (0, 0)) zz20 hg (Kd.R_ne bG.out aJ.out (by decide))) hb ho; clear aA aJ HB bG; obtain ⟨aA, aJ, HB, dE⟩ := n_; clear ho hb hg hat; have oA := zC20 aJ; have n9 := zC21 aJ; have n0 := blk_frozen aJ.out 0; have nZ := blk_frozen aJ.out 1; obtain ⟨Ao42, co42, qX⟩ := Kd.R_slice dE.out; subst qX; have p112 : 0 ≤ (bQ : Int) := of_decide_eq_true zz4; have q112 : bQ < (dP.length : Int) := of_decide_eq_true zz4; obtain ⟨k6, e112, g1⟩ := Kd.at_int (Kd.R_reads' dE.out).2.2 bQ p112 q112; cases e112; replace p112 := eq_true p112; replace q112 := eq_true q112) | (go_at_call 95; (with_reducible refine (spec_l02Has.calls kj10 _ _ dP ((rd_T76 aC a6).f0) false _ ?side1 ?side2 A30.out).mono ?_); (case side1 => exact zz86); (case side2 => exact (Kd.R_reads' dE.out).2.1); rintro e w' ⟨rfl, ⟨nd, rfl⟩⟩; (try first | exact ⟨rfl, _, World.drewN_drewN _ _ _⟩ | exact ⟨rfl, _, Eq.trans (World.drewN_drewN _ _ _) (congrArg (World.drewN _) (Nat.add_assoc _ _ _))⟩)) | ((with_reducible refine gate_builtin (b := .append) (xs := #[.tmp 54, .tmp 57]) rfl ?_); at_builtin; refine Kd.R_append (Kd.int .i64) (w0 := w) w.heap.size rfl (.tmp 54) (.tmp 57) 26 3 (.int .i64 0) 8 rfl Try.underlying26 info3 rfl (by decide) (by omega) (.slice (some k6) dP.length co42) dP ((rd_T76 aC a6).f0) [.int .i64 ((rd_T76 aC a6).f0)] (fun _ => True) (fun _ => False) rfl rfl ?aP (fun _ hk => hk.elim) ?aF ?aO ?aB ?aS ?aL ?_; (case aP => exact rfl); (case aB => exact zz12); (case aF => exact (fun _ _ => trivial)); (case aO => exact (by (with_reducible repeat (first | apply Kd.R_alloc | apply Kd.R_drewN | apply Kd.R_drew)); exact dE.out)); (case aS => exact (below_size zz12)); (case aL => have := vM.out; omega); intro v115 w43 ho hb hg hat; rw [← oU.out] at ho; have n_ := zA4 (blk_grown (g := aE) (o := .cells #[.int .i64 aD, .slice (some dW) aC.length aG] 30 (0, 0)) zz1 hg (Kd.R_ne dE.out aA.out (by decide))) (blk_grown (g := bI) (o := .cells #[.int .i64 ((rd_T76 aC a6).f0), .int .i64 ((rd_T76 aC a6).f1)] 76 (0, 0)) zz20 hg (Kd.R_ne dE.out aJ.out (by decide))) hb ho; clear aA aJ HB dE; obtain ⟨aA, aJ, HB, rH⟩ := n_; clear ho hb hg hat))); (repeat (go_quiet (first | ((with_reducible refine gate_builtin (b := .append) (xs := #[.tmp 35, .tmp 38]) rfl ?_); at_builtin; refine Kd.R_append (Kd.int .i64) (w0 := w) w.heap.size rfl (.tmp 35) (.tmp 38) 26 3 (.int .i64 0) 8 rfl Try.underlying26 info3 rfl (by decide) (by omega) u3 cC ((rd_T76 aC a6).f1) [.int .i64 ((rd_T76 aC a6).f1)] (fun _ => True) (fun _ => False) rfl rfl ?aP (fun _ hk => hk.elim) ?aF ?aO ?aB ?aS ?aL ?_; (case aP => exact rfl); (case aB => exact zz12); (case aF => exact (fun _ _ => trivial)); (case aO => exact zz33); (case aS => exact (below_size zz12)); (case aL => have := nE.out; omega); intro v110 w40 ho hb hg hat; rw [← kG.out] at ho; have n_ := zA4 (blk_grown (g := aE) (o := .cells #[.int .i64 aD, .slice (some dW) aC.length aG] 30 (0, 0)) zz1 hg (Kd.R_ne bG.out aA.out (by decide))) (blk_grown (g := bI) (o := .cells #[.int .i64 ((rd_T76 aC a6).f0), .int .i64 ((rd_T76 aC a6).f1)] 76 (0, 0)) zz20 hg (Kd.R_ne bG.out aJ.out (by decide))) hb ho; clear aA aJ HB bG; obtain ⟨aA, aJ, HB, dE⟩ := n_; clear ho hb hg hat; have oA := zC20 aJ; have n9 := zC21 aJ; have n0 := blk_frozen aJ.out 0; have nZ := blk_frozen aJ.out 1; obtain ⟨Ao42, co42, qX⟩ := Kd.R_slice dE.out; subst qX; have p112 : 0 ≤ (bQ : Int) := of_decide_eq_true zz4; have q112 : bQ < (dP.length : Int) := of_decide_eq_true zz4; obtain ⟨k6, e112, g1⟩ := Kd.at_int (Kd.R_reads' dE.out).2.2 bQ p112 q112; cases e112; replace p112 := eq_true p112; replace q112 := eq_true q112) | (go_at_call 95; (with_reducible refine (spec_l02Has.calls kj10 _ _ dP ((rd_T76 aC a6).f0) false _ ?side1 ?side2 A30.out).mono ?_); (case side1 => exact zz86); (case side2 => exact (Kd.R_reads' dE.out).2.1); rintro e w' ⟨rfl, ⟨nd, rfl⟩⟩; (try first | exact ⟨rfl, _, World.drewN_drewN _ _ _⟩ | exact ⟨rfl, _, Eq.trans (World.drewN_drewN _ _ _) (congrArg (World.drewN _) (Nat.add_assoc _ _ _))⟩)) | ((with_reducible refine gate_builtin (b := .append) (xs := #[.tmp 54, .tmp 57]) rfl ?_); at_builtin; refine Kd.R_append (Kd.int .i64) (w0 := w) w.heap.size rfl (.tmp 54) (.tmp 57) 26 3 (.int .i64 0) 8 rfl Try.underlying26 info3 rfl (by decide) (by omega) (.slice (some k6) dP.length co42) dP ((rd_T76 aC a6).f0) [.int .i64 ((rd_T76 aC a6).f0)] (fun _ => True) (fun _ => False) rfl rfl ?aP (fun _ hk => hk.elim) ?aF ?aO ?aB ?aS ?aL ?_; (case aP => exact rfl); (case aB => exact zz12); (case aF => exact (fun _ _ => trivial)); (case aO => exact (by (with_reducible repeat (first | apply Kd.R_alloc | apply Kd.R_drewN | apply Kd.R_drew)); exact dE.out)); (case aS => exact (below_size zz12)); (case aL => have := vM.out; omega); intro v115 w43 ho hb hg hat; rw [← oU.out] at ho; have n_ := zA4 (blk_grown (g := aE) (o := .cells #[.int .i64 aD, .slice (some dW) aC.length aG] 30 (0, 0)) zz1 hg (Kd.R_ne dE.out aA.out (by decide))) (blk_grown (g := bI) (o := .cells #[.int .i64 ((rd_T76 aC a6).f0), .int .i64 ((rd_T76 aC a6).f1)] 76 (0, 0)) zz20 hg (Kd.R_ne dE.out aJ.out (by decide))) hb ho; clear aA aJ HB dE; obtain ⟨aA, aJ, HB, rH⟩ := n_; clear ho hb hg hat)); try go_wp2_with (first | ((with_reducible refine gate_builtin (b := .append) (xs := #[.tmp 35, .tmp 38]) rfl ?_); at_builtin; refine Kd.R_append (Kd.int .i64) (w0 := w) w.heap.size rfl (.tmp 35) (.tmp 38) 26 3 (.int .i64 0) 8 rfl Try.underlying26 info3 rfl (by decide) (by omega) u3 cC ((rd_T76 aC a6).f1) [.int .i64 ((rd_T76 aC a6).f1)] (fun _ => True) (fun _ => False) rfl rfl ?aP (fun _ hk => hk.elim) ?aF ?aO ?aB ?aS ?aL ?_; (case aP => exact rfl); (case aB => exact zz12); (case aF => exact (fun _ _ => trivial)); (case aO => exact zz33); (case aS => exact (below_size zz12)); (case aL => have := nE.out; omega); intro v110 w40 ho hb hg hat; rw [← kG.out] at ho; have n_ := zA4 (blk_grown (g := aE) (o := .cells #[.int .i64 aD, .slice (some dW) aC.length aG] 30 (0, 0)) zz1 hg (Kd.R_ne bG.out aA.out (by decide))) (blk_grown (g := bI) (o := .cells #[.int .i64 ((rd_T76 aC a6).f0), .int .i64 ((rd_T76 aC a6).f1)] 76 (0, 0)) zz20 hg (Kd.R_ne bG.out aJ.out (by decide))) hb ho; clear aA aJ HB bG; obtain ⟨aA, aJ, HB, dE⟩ := n_; clear ho hb hg hat; have oA := zC20 aJ; have n9 := zC21 aJ; have n0 := blk_frozen aJ.out 0; have nZ := blk_frozen aJ.out 1; obtain ⟨Ao42, co42, qX⟩ := Kd.R_slice dE.out; subst qX; have p112 : 0 ≤ (bQ : Int) := of_decide_eq_true zz4; have q112 : bQ < (dP.length : Int) := of_decide_eq_true zz4; obtain ⟨k6, e112, g1⟩ := Kd.at_int (Kd.R_reads' dE.out).2.2 bQ p112 q112; cases e112; replace p112 := eq_true p112; replace q112 := eq_true q112) | (go_at_call 95; (with_reducible refine (spec_l02Has.calls kj10 _ _ dP ((rd_T76 aC a6).f0) false _ ?side1 ?side2 A30.out).mono ?_); (case side1 => exact zz86); (case side2 => exact (Kd.R_reads' dE.out).2.1); rintro e w' ⟨rfl, ⟨nd, rfl⟩⟩; (try first | exact ⟨rfl, _, World.drewN_drewN _ _ _⟩ | exact ⟨rfl, _, Eq.trans (World.drewN_drewN _ _ _) (congrArg (World.drewN _) (Nat.add_assoc _ _ _))⟩)) | ((with_reducible refine gate_builtin (b := .append) (xs := #[.tmp 54, .tmp 57]) rfl ?_); at_builtin; refine Kd.R_append (Kd.int .i64) (w0 := w) w.heap.size rfl (.tmp 54) (.tmp 57) 26 3 (.int .i64 0) 8 rfl Try.underlying26 info3 rfl (by decide) (by omega) (.slice (some k6) dP.length co42) dP ((rd_T76 aC a6).f0) [.int .i64 ((rd_T76 aC a6).f0)] (fun _ => True) (fun _ => False) rfl rfl ?aP (fun _ hk => hk.elim) ?aF ?aO ?aB ?aS ?aL ?_; (case aP => exact rfl); (case aB => exact zz12); (case aF => exact (fun _ _ => trivial)); (case aO => exact (by (with_reducible repeat (first | apply Kd.R_alloc | apply Kd.R_drewN | apply Kd.R_drew)); exact dE.out)); (case aS => exact (below_size zz12)); (case aL => have := vM.out; omega); intro v115 w43 ho hb hg hat; rw [← oU.out] at ho; have n_ := zA4 (blk_grown (g := aE) (o := .cells #[.int .i64 aD, .slice (some dW) aC.length aG] 30 (0, 0)) zz1 hg (Kd.R_ne dE.out aA.out (by decide))) (blk_grown (g := bI) (o := .cells #[.int .i64 ((rd_T76 aC a6).f0), .int .i64 ((rd_T76 aC a6).f1)] 76 (0, 0)) zz20 hg (Kd.R_ne dE.out aJ.out (by decide))) hb ho; clear aA aJ HB dE; obtain ⟨aA, aJ, HB, rH⟩ := n_; clear ho hb hg hat)))); go_roundg kj10; (case measure => have := HK1.out; have := HK2.out; have := HJ10.out; omega); case rel => exact ⟨(qG), (wrap64 (a6 + 1)), zz6, H', ⟨by have := HK1.out; have := HK2.out; have := HJ10.out; omega⟩, ⟨by (with_reducible repeat (first | apply Kd.R_alloc | apply Kd.R_drewN | apply Kd.R_drew)); exact rH.out⟩, ⟨zz1⟩, ⟨zz12⟩⟩
       replace c25 := Bool.eq_false_iff.mpr c25; subst c25; rw [if_neg (show ¬ (false = true) by decide)] at H; by_cases c49 : 0 ≤ bQ; rotate_left
       ·rw [if_neg c49] at H; exact absurd H (by simp)
       rw [if_pos c49] at H; have QS := decide_eq_true c49; clear c49; by_cases c50 : bQ < (cC.length : Int); rotate_left
       ·rw [if_neg c50] at H; exact absurd H (by simp)
       rw [if_pos c50] at H; have yB := decide_eq_true c50; clear c50; by_cases c51 : ((rd_T76 aC a6).f1) = (rd cC bQ); rotate_left
       ·rw [if_neg c51] at H; have tG : (((rd_T76 aC a6).f1) == (rd cC bQ)) = false := beq_eq_false_iff_ne.mpr c51; have E9 : (((rd_T76 aC a6).f1) != (rd cC bQ)) = true := bne_iff_ne.mpr c51; have H' := zK_ H; clear H; have BA := dC.out; have AM := cW.out; have I2 := zC20 aJ; have I1 := zC21 aJ; have HN := blk_frozen aJ.out 0; have HJ := blk_frozen aJ.out 1; obtain ⟨Ao64, co64, tO⟩ := Kd.R_slice bG.out; subst tO; have p117 : 0 ≤ (bQ : Int) := of_decide_eq_true zz4; have q117 : bQ < (cC.length : Int) := of_decide_eq_true zz4; obtain ⟨rE, e117, sG⟩ := Kd.at_int (Kd.R_reads' bG.out).2.2 bQ p117 q117; cases e117; replace p117 := eq_true p117; replace q117 := eq_true q117; go_wp2; (repeat (go_quiet (fail); try go_wp2)); go_roundg kj10; (case measure => have := HK1.out; have := HK2.out; have := HJ10.out; omega); case rel => exact ⟨(cC), (wrap64 (a6 + 1)), zz6, H', ⟨by have := HK1.out; have := HK2.out; have := HJ10.out; omega⟩, ⟨zz33⟩, ⟨zz1⟩, ⟨zz12⟩⟩
       rw [if_pos c51] at H; have tG : (((rd_T76 aC a6).f1) == (rd cC bQ)) = true := beq_iff_eq.mpr c51; have E9 : (((rd_T76 aC a6).f1) != (rd cC bQ)) = false := bne_eq_false_iff_eq.mpr c51; clear c51; obtain ⟨oZ, A520, H⟩ := zO_ H; (try dsimp only at H); have A52 := zK_ A520; clear A520; by_cases c53 : oZ = true
       ·subst c53; rw [if_pos rfl] at H; have H' := zK_ H; clear H; have PO := dC.out; have OJ := cW.out; have pQ := zC20 aJ; have pP := zC21 aJ; have pE := blk_frozen aJ.out 0; have pD := blk_frozen aJ.out 1; obtain ⟨Ao56, co56, zO⟩ := Kd.R_slice bG.out; subst zO; have p117 : 0 ≤ (bQ : Int) := of_decide_eq_true zz4; have q117 : bQ < (cC.length : Int) := of_decide_eq_true zz4; obtain ⟨rE, e117, sG⟩ := Kd.at_int (Kd.R_reads' bG.out).2.2 bQ p117 q117; cases e117; replace p117 := eq_true p117; replace q117 := eq_true q117; (go_wp2_with (first | (go_at_call 95; (with_reducible refine (spec_l02Has.calls kj10 _ _ cC ((rd_T76 aC a6).f0) true _ ?side1 ?side2 A52.out).mono ?_); (case side1 => exact zz88); (case side2 => exact (Kd.R_reads' bG.out).2.1); rintro e w' ⟨rfl, ⟨nd, rfl⟩⟩; (try first | exact ⟨rfl, _, World.drewN_drewN _ _ _⟩ | exact ⟨rfl, _, Eq.trans (World.drewN_drewN _ _ _) (congrArg (World.drewN _) (Nat.add_assoc _ _ _))⟩)))); (repeat (go_quiet (first | (go_at_call 95; (with_reducible refine (spec_l02Has.calls kj10 _ _ cC ((rd_T76 aC a6).f0) true _ ?side1 ?side2 A52.out).mono ?_); (case side1 => exact zz88); (case side2 => exact (Kd.R_reads' bG.out).2.1); rintro e w' ⟨rfl, ⟨nd, rfl⟩⟩; (try first | exact ⟨rfl, _, World.drewN_drewN _ _ _⟩ | exact ⟨rfl, _, Eq.trans (World.drewN_drewN _ _ _) (congrArg (World.drewN _) (Nat.add_assoc _ _ _))⟩))); try go_wp2_with (first | (go_at_call 95; (with_reducible refine (spec_l02Has.calls kj10 _ _ cC ((rd_T76 aC a6).f0) true _ ?side1 ?side2 A52.out).mono ?_); (case side1 => exact zz88); (case side2 => exact (Kd.R_reads' bG.out).2.1); rintro e w' ⟨rfl, ⟨nd, rfl⟩⟩; (try first | exact ⟨rfl, _, World.drewN_drewN _ _ _⟩ | exact ⟨rfl, _, Eq.trans (World.drewN_drewN _ _ _) (congrArg (World.drewN _) (Nat.add_assoc _ _ _))⟩))))); go_roundg kj10; (case measure => have := HK1.out; have := HK2.out; have := HJ10.out; omega); case rel => exact ⟨(cC), (wrap64 (a6 + 1)), zz6, H', ⟨by have := HK1.out; have := HK2.out; have := HJ10.out; omega⟩, ⟨zz33⟩, ⟨zz1⟩, ⟨zz12⟩⟩
       replace c53 := Bool.eq_false_iff.mpr c53; subst c53; rw [if_neg (show ¬ (false = true) by decide)] at H; by_cases c57 : cC.length < 17592186044416; rotate_left
       ·rw [if_neg c57] at H; exact absurd H (by simp)
       rw [if_pos c57] at H; have vK := zK_ c57; clear c57; obtain ⟨mK, hy_⟩ : ∃ y_ : List Int, y_ = (cC ++ [((rd_T76 aC a6).f0)]) := ⟨_, rfl⟩; (replace H : (spec_l02Reach.l1 kj10 mK bQ aC (aC.length : Int) (wrap64 (a6 + 1)) aD aC) = some r := zzY); have rF := zK_ hy_; clear hy_; have H' := zK_ H; clear H; have BB := dC.out; have AN := cW.out; have I4 := zC20 aJ; have I3 := zC21 aJ; have HT := blk_frozen aJ.out 0; have HP := blk_frozen aJ.out 1; obtain ⟨Ao60, co60, M6⟩ := Kd.R_slice bG.out; subst M6; have p117 : 0 ≤ (bQ : Int) := of_decide_eq_true zz4; have q117 : bQ < (cC.length : Int) := of_decide_eq_true zz4; obtain ⟨rE, e117, sG⟩ := Kd.at_int (Kd.R_reads' bG.out).2.2 bQ p117 q117; cases e117; replace p117 := eq_true p117; replace q117 := eq_true q117; (go_wp2_with (first | (go_at_call 95; (with_reducible refine (spec_l02Has.calls kj10 _ _ cC ((rd_T76 aC a6).f0) false _ ?side1 ?side2 A52.out).mono ?_); (case side1 => exact zz88); (case side2 => exact (Kd.R_reads' bG.out).2.1); rintro e w' ⟨rfl, ⟨nd, rfl⟩⟩; (try first | exact ⟨rfl, _, World.drewN_drewN _ _ _⟩ | exact ⟨rfl, _, Eq.trans (World.drewN_drewN _ _ _) (congrArg (World.drewN _) (Nat.add_assoc _ _ _))⟩)) | ((with_reducible refine gate_builtin (b := .append) (xs := #[.tmp 54, .tmp 57]) rfl ?_); at_builtin; refine Kd.R_append (Kd.int .i64) (w0 := w) w.heap.size rfl (.tmp 54) (.tmp 57) 26 3 (.int .i64 0) 8 rfl Try.underlying26 info3 rfl (by decide) (by omega) (.slice (some rE) cC.length co60) cC ((rd_T76 aC a6).f0) [.int .i64 ((rd_T76 aC a6).f0)] (fun _ => True) (fun _ => False) rfl rfl ?aP (fun _ hk => hk.elim) ?aF ?aO ?aB ?aS ?aL ?_; (case aP => exact rfl); (case aB => exact zz12); (case aF => exact (fun _ _ => trivial)); (case aO => exact zz33); (case aS => exact (below_size zz12)); (case aL => have := vK.out; omega); intro v120 w61 ho hb hg hat; rw [← rF.out] at ho; have n_ := zA4 (blk_grown (g := aE) (o := .cells #[.int .i64 aD, .slice (some dW) aC.length aG] 30 (0, 0)) zz1 hg (Kd.R_ne bG.out aA.out (by decide))) (blk_grown (g := bI) (o := .cells #[.int .i64 ((rd_T76 aC a6).f0), .int .i64 ((rd_T76 aC a6).f1)] 76 (0, 0)) zz20 hg (Kd.R_ne bG.out aJ.out (by decide))) hb ho; clear aA aJ HB bG; obtain ⟨aA, aJ, HB, eA⟩ := n_; clear ho hb hg hat))); (repeat (go_quiet (first | (go_at_call 95; (with_reducible refine (spec_l02Has.calls kj10 _ _ cC ((rd_T76 aC a6).f0) false _ ?side1 ?side2 A52.out).mono ?_); (case side1 => exact zz88); (case side2 => exact (Kd.R_reads' bG.out).2.1); rintro e w' ⟨rfl, ⟨nd, rfl⟩⟩; (try first | exact ⟨rfl, _, World.drewN_drewN _ _ _⟩ | exact ⟨rfl, _, Eq.trans (World.drewN_drewN _ _ _) (congrArg (World.drewN _) (Nat.add_assoc _ _ _))⟩)) | ((with_reducible refine gate_builtin (b := .append) (xs := #[.tmp 54, .tmp 57]) rfl ?_); at_builtin; refine Kd.R_append (Kd.int .i64) (w0 := w) w.heap.size rfl (.tmp 54) (.tmp 57) 26 3 (.int .i64 0) 8 rfl Try.underlying26 info3 rfl (by decide) (by omega) (.slice (some rE) cC.length co60) cC ((rd_T76 aC a6).f0) [.int .i64 ((rd_T76 aC a6).f0)] (fun _ => True) (fun _ => False) rfl rfl ?aP (fun _ hk => hk.elim) ?aF ?aO ?aB ?aS ?aL ?_; (case aP => exact rfl); (case aB => exact zz12); (case aF => exact (fun _ _ => trivial)); (case aO => exact zz33); (case aS => exact (below_size zz12)); (case aL => have := vK.out; omega); intro v120 w61 ho hb hg hat; rw [← rF.out] at ho; have n_ := zA4 (blk_grown (g := aE) (o := .cells #[.int .i64 aD, .slice (some dW) aC.length aG] 30 (0, 0)) zz1 hg (Kd.R_ne bG.out aA.out (by decide))) (blk_grown (g := bI) (o := .cells #[.int .i64 ((rd_T76 aC a6).f0), .int .i64 ((rd_T76 aC a6).f1)] 76 (0, 0)) zz20 hg (Kd.R_ne bG.out aJ.out (by decide))) hb ho; clear aA aJ HB bG; obtain ⟨aA, aJ, HB, eA⟩ := n_; clear ho hb hg hat)); try go_wp2_with (first | (go_at_call 95; (with_reducible refine (spec_l02Has.calls kj10 _ _ cC ((rd_T76 aC a6).f0) false _ ?side1 ?side2 A52.out).mono ?_); (case side1 => exact zz88); (case side2 => exact (Kd.R_reads' bG.out).2.1); rintro e w' ⟨rfl, ⟨nd, rfl⟩⟩; (try first | exact ⟨rfl, _, World.drewN_drewN _ _ _⟩ | exact ⟨rfl, _, Eq.trans (World.drewN_drewN _ _ _) (congrArg (World.drewN _) (Nat.add_assoc _ _ _))⟩)) | ((with_reducible refine gate_builtin (b := .append) (xs := #[.tmp 54, .tmp 57]) rfl ?_); at_builtin; refine Kd.R_append (Kd.int .i64) (w0 := w) w.heap.size rfl (.tmp 54) (.tmp 57) 26 3 (.int .i64 0) 8 rfl Try.underlying26 info3 rfl (by decide) (by omega) (.slice (some rE) cC.length co60) cC ((rd_T76 aC a6).f0) [.int .i64 ((rd_T76 aC a6).f0)] (fun _ => True) (fun _ => False) rfl rfl ?aP (fun _ hk => hk.elim) ?aF ?aO ?aB ?aS ?aL ?_; (case aP => exact rfl); (case aB => exact zz12); (case aF => exact (fun _ _ => trivial)); (case aO => exact zz33); (case aS => exact (below_size zz12)); (case aL => have := vK.out; omega); intro v120 w61 ho hb hg hat; rw [← rF.out] at ho; have n_ := zA4 (blk_grown (g := aE) (o := .cells #[.int .i64 aD, .slice (some dW) aC.length aG] 30 (0, 0)) zz1 hg (Kd.R_ne bG.out aA.out (by decide))) (blk_grown (g := bI) (o := .cells #[.int .i64 ((rd_T76 aC a6).f0), .int .i64 ((rd_T76 aC a6).f1)] 76 (0, 0)) zz20 hg (Kd.R_ne bG.out aJ.out (by decide))) hb ho; clear aA aJ HB bG; obtain ⟨aA, aJ, HB, eA⟩ := n_; clear ho hb hg hat)))); go_roundg kj10; (case measure => have := HK1.out; have := HK2.out; have := HJ10.out; omega); case rel => exact ⟨(mK), (wrap64 (a6 + 1)), zz6, H', ⟨by have := HK1.out; have := HK2.out; have := HJ10.out; omega⟩, ⟨by (with_reducible repeat (first | apply Kd.R_alloc | apply Kd.R_drewN | apply Kd.R_drew)); exact eA.out⟩, ⟨zz1⟩, ⟨zz12⟩⟩
end Go.Proofs.Ytkcbinohpdhbgaa.P
end

section
namespace Go.Proofs.Ytkcbinohpdhbgaa.P
open Go.RowKit Go.Proofs.YtkcbinohpdhbgaaW.PrintWords Go.Proofs.YtkcbinohpdhbgaaW.PrintLast Go.Proofs.YtkcbinohpdhbgaaW.PrintMore
attribute [local go_sem] max2_int min2_int max_two min_two max_three min_three max_four min_four
set_option linter.unusedVariables false
set_option linter.unusedSimpArgs false
def spec_GraphOk.l0 : Nat → List (S76) → Int → Int → Int → List (S76) → Option (Bool)
 | 0, _, _, _, _, _ => none
 | k + 1, x9, jJ, fV, aY, aX => if fV < jJ then (if 0 ≤ fV then (if fV < (x9.length : Int) then (if fV > 0 then (if 0 ≤ (wrap64 (fV - 1)) then (if (wrap64 (fV - 1)) < (aX.length : Int) then (if ((rd_T76 x9 fV).f0) < ((rd_T76 aX (wrap64 (fV - 1))).f0) then (some false) else (if ((rd_T76 x9 fV).f0) = ((rd_T76 aX (wrap64 (fV - 1))).f0) then (if ((rd_T76 x9 fV).f1) < ((rd_T76 aX (wrap64 (fV - 1))).f1) then (some false) else (spec_GraphOk.l0 k x9 jJ (wrap64 (fV + 1)) aY aX)) else (spec_GraphOk.l0 k x9 jJ (wrap64 (fV + 1)) aY aX))) else (none)) else (none)) else (spec_GraphOk.l0 k x9 jJ (wrap64 (fV + 1)) aY aX)) else (none)) else (none)) else ((spec_l02Reach.f k aY aX).bind fun d9 => (some ((d9.length : Int) == aY)))
def spec_GraphOk.f (k : Nat) (aD : Int) (aC : List (S76)) : Option (Bool) := (spec_EdgesOk.f k aD aC).bind fun aT => (if aT = true then (spec_GraphOk.l0 k aC (aC.length : Int) 0 aD aC) else (some false))
theorem spec_GraphOk.mono_l : ∀ k, (∀ y0 y1 y2 y3 y4, LeO (spec_GraphOk.l0 k y0 y1 y2 y3 y4) (spec_GraphOk.l0 (k + 1) y0 y1 y2 y3 y4))
 | 0 => fun _ _ _ _ _ r h => by simp [spec_GraphOk.l0] at h
 | k + 1 => by
  have ih0 := spec_GraphOk.mono_l k
  ·intro y0 y1 y2 y3 y4
   unfold spec_GraphOk.l0
   exact zm13
theorem spec_GraphOk.mono : ∀ a0 a1 k, LeO (spec_GraphOk.f k a0 a1) (spec_GraphOk.f (k + 1) a0 a1) := by
 intro a0 a1 k; have ih0 := spec_GraphOk.mono_l k; unfold spec_GraphOk.f; exact zm13
def spec_GraphOk.T6 : Bool × List (List Nat × List Nat) := (true, [([], []), ([0], [0]), ([1], [1]), ([2], [2]), ([3, 2], [2, 3]), ([2], [2]), ([5, 2], [2, 5]), ([2], [2]), ([7, 2], [2, 7]), ([6, 8, 2], [2, 6, 8]), ([9, 2], [2, 9]), ([10, 2], [2, 10]), ([4, 11, 2], [2, 4, 11]), ([12, 2, 2], [2, 12]), ([13], [13]), ([14, 13], [13, 14]), ([13], [13]), ([16, 13], [13, 16]), ([13], [13]), ([18, 13], [13, 18]), ([17, 19, 13], [13, 17, 19]), ([20, 13], [13, 20]), ([21, 13], [13, 21]), ([15, 22, 13], [13, 15, 22]), ([23, 13, 13], [13, 23]), ([24], [24]), ([25, 24], [24, 25]), ([24], [24]), ([27, 24], [24, 27]), ([24], [24]), ([29, 24], [24, 29]), ([28, 30, 24], [24, 28, 30]), ([31, 24], [24, 31]), ([32, 24], [24, 32]), ([26, 33, 24], [24, 26, 33]), ([24, 34, 13], [13, 24, 34]), ([13, 35, 2], [2, 13, 35]), ([2, 36], [2, 36])])
def spec_GraphOk.B6 : List Nat := [0, 1, 3, 7, 15, 7, 39, 7, 135, 487, 999, 2023, 4095, 8191, 16383, 32767, 16383, 81919, 16383, 278527, 999423, 2047999, 4145151, 8388607, 16777215, 33554431, 67108863, 33554431, 167772159, 33554431, 570425343, 2046820351, 4194303999, 8489271295, 17179869183, 34359738367, 68719476735, 137438953471]
theorem spec_GraphOk.tab6 : rtab .any (opsOf Try.f35 6) = spec_GraphOk.T6 := by kernel_rfl
theorem spec_GraphOk.bits6 : waitsOk spec_GraphOk.T6.2 spec_GraphOk.B6 = true := by kernel_rfl
theorem spec_GraphOk.calls (k : Nat) (aD : Int) (aH : Option Addr) (aG : Nat) (aC : List (S76)) (r : Bool) (w : World) (hr0_1 : Kd.C k76 w aH aC.length aC) (hc0_1 : aC.length ≤ aG) (h : spec_GraphOk.f k aD aC = some r) :
  Calls Try.prog 35 #[.agg #[.int .i64 aD, .slice aH aC.length aG]] w fun e w' => e = .returned (.bool r) ∧ Below w.heap.size w w' := by
 have hu30 := Try.underlying30; have hu76 := Try.underlying76; have cB := zK_ hr0_1; have bO := zK_ hc0_1; clear hr0_1 hc0_1; have HB := zK_ (Below.refl w.heap.size w); have H : ((spec_EdgesOk.f k aD aC).bind fun aT => (if aT = true then (spec_GraphOk.l0 k aC (aC.length : Int) 0 aD aC) else (some false))) = some r := h; clear h; obtain ⟨aT, A20, H⟩ := zO_ H; (try dsimp only at H); have A2 := zK_ A20; clear A20; by_cases c3 : aT = true; rotate_left
 ·replace c3 := Bool.eq_false_iff.mpr c3; subst c3; rw [if_neg (show ¬ (false = true) by decide)] at H; obtain rfl := Option.some.inj H; go_enter Try.func35, Try.ntmps35; (go_wp2_with (first | ((with_reducible refine gate_dst (N := 1) rfl ?_); refine box_event ?hg (N := 1) ?hd (cs := #[.int .i64 aD, .slice aH aC.length aG]) (t := 30) ?hr ?_; (case hd => rfl); (case hg => rfl); (case hr => exact zz21); intro aE hg w47 hbox hb; have n_ := zA4 (below_step zz2 hb) hbox (zz18 : w.heap.size ≤ aE) (zz18 : w.heap.size ≤ aE); clear HB; obtain ⟨HB, aA, GW101, GE101⟩ := n_; clear hb hbox hg; have l5 := zC20 aA; have lZ := zC21 aA; have lQ := blk_frozen aA.out 0; have lP := blk_frozen aA.out 1) | ((with_reducible refine gate_callee (f := 64) rfl ?_); refine goesL_ (some 6) rfl rfl Try.func64 (by kernel_rfl) rfl #[.agg #[.int .i64 aD, .slice aH aC.length aG]] rfl zz3 ?_; (with_reducible refine (spec_EdgesOk.calls k aD _ _ aC false _ ?side1 ?side2 A2.out).mono ?_); (case side1 => exact zz5); (case side2 => exact bO.out); rintro e w49 ⟨rfl, hb⟩; refine ⟨_, rfl, ?_⟩; have n_ := zA2 (blk_below (g := aE) (o := .cells #[.int .i64 aD, .slice aH aC.length aG] 30 (0, 0)) zz1 hb) (below_step zz0 hb); clear aA HB; obtain ⟨aA, HB⟩ := n_; clear hb))); go_ret; exact ⟨zz10, zz0⟩
 subst c3; rw [if_pos rfl] at H; have H' := zK_ H; clear H; go_enter Try.func35, Try.ntmps35; (go_wp2_with (first | ((with_reducible refine gate_dst (N := 1) rfl ?_); refine box_event ?hg (N := 1) ?hd (cs := #[.int .i64 aD, .slice aH aC.length aG]) (t := 30) ?hr ?_; (case hd => rfl); (case hg => rfl); (case hr => exact zz21); intro aE hg w4 hbox hb; have n_ := zA4 (below_step zz2 hb) hbox (zz18 : w.heap.size ≤ aE) (zz18 : w.heap.size ≤ aE); clear HB; obtain ⟨HB, aA, GW101, GE101⟩ := n_; clear hb hbox hg; have mR := zC20 aA; have mQ := zC21 aA; have nM := blk_frozen aA.out 0; have mP := blk_frozen aA.out 1) | ((with_reducible refine gate_callee (f := 64) rfl ?_); refine goesL_ (some 6) rfl rfl Try.func64 (by kernel_rfl) rfl #[.agg #[.int .i64 aD, .slice aH aC.length aG]] rfl zz3 ?_; (with_reducible refine (spec_EdgesOk.calls k aD _ _ aC true _ ?side1 ?side2 A2.out).mono ?_); (case side1 => exact zz5); (case side2 => exact bO.out); rintro e w6 ⟨rfl, hb⟩; refine ⟨_, rfl, ?_⟩; have n_ := zA2 (blk_below (g := aE) (o := .cells #[.int .i64 aD, .slice aH aC.length aG] 30 (0, 0)) zz1 hb) (below_step zz0 hb); clear aA HB; obtain ⟨aA, HB⟩ := n_; clear hb; have f8 := zC20 aA; have f7 := zC21 aA; have f6 := blk_frozen aA.out 0; have f4 := blk_frozen aA.out 1))); (go_loopg [11] k (fun kq v11 w' => ∃ (aZ : Int), v11 = .int .i64 aZ ∧ Aside0 (spec_GraphOk.l0 kq aC (aC.length : Int) aZ aD aC = some r) ∧ Aside0 (kq ≤ k) ∧ Aside0 (w'.heap[aE]? = some (.cells #[.int .i64 aD, (.slice aH aC.length aG)] 30 (0, 0))) ∧ Aside0 (Below w.heap.size w w'))); case atStart => exact ⟨(0), zz6, H', ⟨Nat.le_refl _⟩, ⟨zz1⟩, ⟨zz0⟩⟩
 case round =>
  clear H'; (try clear p2); (try clear c3); (try clear c6); (try clear mR); (try clear mQ); (try clear f8); (try clear f7); (try clear nM); (try clear mP); (try clear f6); (try clear f4); obtain ⟨aZ, rfl, HA, HK1, aA, HB⟩ := hrel
  cases gk with
  | zero => exact absurd HA.out (by simp [spec_GraphOk.l0])
  | succ k1 =>
   have H := HA.out; clear HA; simp only [spec_GraphOk.l0] at H; by_cases c8 : aZ < (aC.length : Int); rotate_left
   ·rw [if_neg c8] at H; have gV := decide_eq_false c8; clear c8; obtain ⟨d9, A430, H⟩ := zO_ H; (try dsimp only at H); have A43 := zK_ A430; clear A430; obtain rfl := Option.some.inj H; (try go_wp2); have n_ := zA2 (blk_drew aA.out) (below_drew1 HB.out); clear aA HB; obtain ⟨aA, HB⟩ := n_; refine start_ (n := 7) (S := fun w' => w'.cell? ⟨aE, 0, none⟩ = some (.int .i64 aD) ∧ w'.cell? ⟨aE, 1, none⟩ = some (.slice aH aC.length aG)) (ds := []) (zM 7 0) (by kernel_rfl) rfl rfl ⟨(blk_cell aA.out 0).trans rfl, (blk_cell aA.out 1).trans rfl⟩ (fun hHeld => ?_); generalize wr.drew = w44 at aA HB hHeld ⊢; refine pure_ (i := 3) (N := some 58) (v := ?_) (a' := ?_) (zM 7 8) rfl rfl (by kernel_rfl) (fun _ _ _ h => h) (Or.inl ⟨by rfl, ?_⟩) ?_ ?_; rotate_left
    ·intro w'; exact zzT
    rotate_left
    ·exact zzS
    refine take_ (i := 0) (N := some 55) (v := ?_) (a' := ?_) (zM 7 9) rfl rfl (by kernel_rfl) (fun _ _ _ h => h) (Or.inl ⟨by rfl, ?_⟩) hHeld ?_ ?_; rotate_left
    ·rintro w' ⟨s0, s1⟩; exact zzT
    rotate_left
    ·exact zzS
    refine take_ (i := 4) (N := some 59) (v := ?_) (a' := ?_) (zM 7 25) rfl rfl (by kernel_rfl) (fun _ _ _ h => h) (Or.inl ⟨by rfl, ?_⟩) hHeld ?_ ?_; rotate_left
    ·rintro w' ⟨s0, s1⟩; exact zzT
    rotate_left
    ·exact zzS
    refine one_ (i := 1) (N := some 56) (zM 7 27) rfl rfl (by kernel_rfl) (by decide) (fun K hK => ?_); refine goes_ Try.func65 (by kernel_rfl) rfl #[.agg #[.int .i64 aD, .slice aH aC.length aG]] (by rfl) rfl rfl zz3 ?_; (with_reducible refine (spec_l02Reach.calls k1 aD _ _ aC d9 _ ?side1 ?side2 A43.out).mono ?_); (case side1 => exact zz5); (case side2 => exact bO.out); rintro e w45 ⟨v109, rfl, ho0, hb⟩; refine ⟨_, rfl, ?_⟩; have n_ := zA3 (Kd.R_lower ho0 (below_size zz0)) (blk_below (g := aE) (o := .cells #[.int .i64 aD, .slice aH aC.length aG] 30 (0, 0)) zz1 hb) (below_step zz0 hb); clear aA HB; obtain ⟨gA, aA, HB⟩ := n_; clear ho0 hb; obtain ⟨Ao46, co46, EN⟩ := Kd.R_slice gA.out; (first | subst EN | (injection EN with f1_ f2_ f3_; have f4_ := f1_.symm; have f5_ := f3_.symm; clear f1_ f2_ f3_; subst f4_; subst f5_)); refine hK.out _ _ ⟨(blk_cell aA.out 0).trans rfl, (blk_cell aA.out 1).trans rfl⟩ (fun hHeld => ?_); clear hK K; refine norm_ (a' := ?_) ?_ ?_; rotate_left
    ·show Act.put _ (some 56) _ = _; exact zzS
    refine pure_ (i := 2) (N := some 57) (v := ?_) (a' := ?_) (zM 7 31) rfl rfl (by kernel_rfl) (fun _ _ _ h => h) (Or.inl ⟨by rfl, ?_⟩) ?_ ?_; rotate_left
    ·intro w'; exact zzT
    rotate_left
    ·exact zzS
    refine pure_ (i := 5) (N := some 60) (v := ?_) (a' := ?_) (zM 7 63) rfl rfl (by kernel_rfl) (fun _ _ _ h => h) (Or.inl ⟨by rfl, ?_⟩) ?_ ?_; rotate_left
    ·intro w'; exact zzT
    rotate_left
    ·exact zzS
    refine pure_ (i := 6) (N := some 2) (v := ?_) (a' := ?_) (zM 7 127) rfl rfl (by kernel_rfl) (fun _ _ _ h => h) (Or.inl ⟨by rfl, ?_⟩) ?_ ?_; rotate_left
    ·intro w'; exact zzT
    rotate_left
    ·exact zzS
    refine done_ (by kernel_rfl) ?_; (try go_wp2); go_ret; exact ⟨zz10, zz0⟩
   rw [if_pos c8] at H; have gV := decide_eq_true c8; clear c8; by_cases c9 : 0 ≤ aZ; rotate_left
   ·rw [if_neg c9] at H; exact absurd H (by simp)
   rw [if_pos c9] at H; have lA := decide_eq_true c9; clear c9; by_cases c10 : aZ < (aC.length : Int); rotate_left
   ·rw [if_neg c10] at H; exact absurd H (by simp)
   rw [if_pos c10] at H; have g6 := decide_eq_true c10; clear c10; by_cases c11 : aZ > 0; rotate_left
   ·rw [if_neg c11] at H; have nP : decide (0 < aZ) = false := decide_eq_false c11; clear c11; have H' := zK_ H; clear H; have p103 : 0 ≤ (aZ : Int) := of_decide_eq_true zz4; have q103 : aZ < (aC.length : Int) := of_decide_eq_true zz4; obtain ⟨bZ, e103, bL, bV⟩ := at_T76 cB.out aZ p103 q103; cases e103; replace bL := (HB.out.cell (World.block_lt_of_cell? w _ bL)).trans bL; replace bV := (HB.out.cell (World.block_lt_of_cell? w _ bV)).trans bV; replace p103 := eq_true p103; replace q103 := eq_true q103; (try go_wp2_with (first | ((with_reducible refine gate_dst (N := 4) rfl ?_); refine box_event ?hg (N := 4) ?hd (cs := #[.int .i64 0, .int .i64 0]) (t := 76) ?hr ?_; (case hd => rfl); (case hg => rfl); (case hr => exact zz21); intro bE hg w38 hbox hb; have n_ := zA7 (blk_below (g := aE) (o := .cells #[.int .i64 aD, .slice (some bZ) aC.length aG] 30 (0, 0)) zz1 hb) (below_step zz0 hb) hbox (zz47 : w.heap.size ≤ bE) (zz47 : w.heap.size ≤ bE) (zz57 : aE ≠ bE) (zz58 : bE ≠ aE); clear aA HB; obtain ⟨aA, HB, bM, GW104, GE104, cK, cS⟩ := n_; clear hb hbox hg; have BF := cS.out; have AR := cK.out; have JA := zC20 bM; have I9 := zC21 bM; have H3 := blk_frozen bM.out 0; have H2 := blk_frozen bM.out 1))); have n0_ : Aside0 (((w38.setCell ⟨bE, 0, none⟩ (.int .i64 ((rd_T76 aC aZ).f0))).setCell ⟨bE, 1, none⟩ (.int .i64 ((rd_T76 aC aZ).f1))).heap[aE]? = some (.cells #[.int .i64 aD, .slice (some bZ) aC.length aG] 30 (0, 0))) := ⟨zz36⟩; have n1_ : Aside0 (((w38.setCell ⟨bE, 0, none⟩ (.int .i64 ((rd_T76 aC aZ).f0))).setCell ⟨bE, 1, none⟩ (.int .i64 ((rd_T76 aC aZ).f1))).heap[bE]? = some (.cells #[.int .i64 ((rd_T76 aC aZ).f0), .int .i64 ((rd_T76 aC aZ).f1)] 76 (0, 0))) := ⟨zz46⟩; have n2_ : Aside0 (Below w.heap.size w ((w38.setCell ⟨bE, 0, none⟩ (.int .i64 ((rd_T76 aC aZ).f0))).setCell ⟨bE, 1, none⟩ (.int .i64 ((rd_T76 aC aZ).f1)))) := ⟨zz26⟩; (try clear aA); (try clear bM); (try clear HB); generalize ((w38.setCell ⟨bE, 0, none⟩ (.int .i64 ((rd_T76 aC aZ).f0))).setCell ⟨bE, 1, none⟩ (.int .i64 ((rd_T76 aC aZ).f1))) = w41 at n0_ n1_ n2_ ⊢; have aA := n0_; have bM := n1_; have HB := n2_; clear n0_ n1_ n2_; have n_ := zA3 (blk_drew aA.out) (blk_drew bM.out) (below_drew1 HB.out); clear aA bM HB; obtain ⟨aA, bM, HB⟩ := n_; refine start_ (n := 38) (S := fun w' => True) (ds := []) (zM 38 0) (by kernel_rfl) rfl rfl trivial (fun hHeld => ?_); refine with_tabW spec_GraphOk.tab6 spec_GraphOk.bits6 (fun HT_ HW_ => ?_); generalize w41.drew = w42 at aA bM HB hHeld ⊢; refine zQ 0 16 (zM 38 1) ?_
    refine zQ 1 17 (zM 38 3) ?_
    refine zQ 2 18 (zM 38 7) ?_
    refine zU 3 19 (zM 38 15) rfl rfl HT_.out ?_ ?_ ?_; rotate_left
    ·exact zzS
    refine zU 4 20 (zM 38 31) rfl rfl HT_.out ?_ ?_ ?_; rotate_left
    ·exact zzS
    refine zU 5 21 (zM 38 63) rfl rfl HT_.out ?_ ?_ ?_; rotate_left
    ·exact zzS
    refine zU 6 22 (zM 38 127) rfl rfl HT_.out ?_ ?_ ?_; rotate_left
    ·exact zzS
    refine zU 7 23 (zM 38 255) rfl rfl HT_.out ?_ ?_ ?_; rotate_left
    ·exact zzS
    refine zU 8 24 (zM 38 511) rfl rfl HT_.out ?_ ?_ ?_; rotate_left
    ·exact zzS
    refine zU 9 25 (zM 38 1023) rfl rfl HT_.out ?_ ?_ ?_; rotate_left
    ·exact zzS
    refine zU 10 26 (zM 38 2047) rfl rfl HT_.out ?_ ?_ ?_; rotate_left
    ·exact zzS
    refine zU 11 27 (zM 38 4095) rfl rfl HT_.out ?_ ?_ ?_; rotate_left
    ·exact zzS
    refine zU 12 28 (zM 38 8191) rfl rfl HT_.out ?_ ?_ ?_; rotate_left
    ·exact zzS
    refine zU 13 29 (zM 38 16383) rfl rfl HT_.out ?_ ?_ ?_; rotate_left
    ·exact zzS
    refine zU 14 30 (zM 38 32767) rfl rfl HT_.out ?_ ?_ ?_; rotate_left
    ·exact zzS
    refine zU 15 31 (zM 38 65535) rfl rfl HT_.out ?_ ?_ ?_; rotate_left
    ·exact zzS
    refine zU 16 32 (zM 38 131071) rfl rfl HT_.out ?_ ?_ ?_; rotate_left
    ·exact zzS
    refine zU 17 33 (zM 38 262143) rfl rfl HT_.out ?_ ?_ ?_; rotate_left
    ·exact zzS
    refine zU 18 34 (zM 38 524287) rfl rfl HT_.out ?_ ?_ ?_; rotate_left
    ·exact zzS
    refine zU 19 35 (zM 38 1048575) rfl rfl HT_.out ?_ ?_ ?_; rotate_left
    ·exact zzS
    refine zU 20 36 (zM 38 2097151) rfl rfl HT_.out ?_ ?_ ?_; rotate_left
    ·exact zzS
    refine zU 21 37 (zM 38 4194303) rfl rfl HT_.out ?_ ?_ ?_; rotate_left
    ·exact zzS
    refine zU 22 38 (zM 38 8388607) rfl rfl HT_.out ?_ ?_ ?_; rotate_left
    ·exact zzS
    refine zU 23 39 (zM 38 16777215) rfl rfl HT_.out ?_ ?_ ?_; rotate_left
    ·exact zzS
    refine zU 24 40 (zM 38 33554431) rfl rfl HT_.out ?_ ?_ ?_; rotate_left
    ·exact zzS
    refine zU 25 41 (zM 38 67108863) rfl rfl HT_.out ?_ ?_ ?_; rotate_left
    ·exact zzS
    refine zU 26 42 (zM 38 134217727) rfl rfl HT_.out ?_ ?_ ?_; rotate_left
    ·exact zzS
    refine zU 27 43 (zM 38 268435455) rfl rfl HT_.out ?_ ?_ ?_; rotate_left
    ·exact zzS
    refine zU 28 44 (zM 38 536870911) rfl rfl HT_.out ?_ ?_ ?_; rotate_left
    ·exact zzS
    refine zU 29 45 (zM 38 1073741823) rfl rfl HT_.out ?_ ?_ ?_; rotate_left
    ·exact zzS
    refine zU 30 46 (zM 38 2147483647) rfl rfl HT_.out ?_ ?_ ?_; rotate_left
    ·exact zzS
    refine zU 31 47 (zM 38 4294967295) rfl rfl HT_.out ?_ ?_ ?_; rotate_left
    ·exact zzS
    refine zU 32 48 (zM 38 8589934591) rfl rfl HT_.out ?_ ?_ ?_; rotate_left
    ·exact zzS
    refine zU 33 49 (zM 38 17179869183) rfl rfl HT_.out ?_ ?_ ?_; rotate_left
    ·exact zzS
    refine zU 34 50 (zM 38 34359738367) rfl rfl HT_.out ?_ ?_ ?_; rotate_left
    ·exact zzS
    refine zU 35 51 (zM 38 68719476735) rfl rfl HT_.out ?_ ?_ ?_; rotate_left
    ·exact zzS
    refine zU 36 52 (zM 38 137438953471) rfl rfl HT_.out ?_ ?_ ?_; rotate_left
    ·exact zzS
    refine zQ 37 53 (zM 38 274877906943) ?_
    refine done_ (done_of HT_.out (by kernel_rfl)) ?_; (try go_wp2); go_roundg k1; (case measure => have := HK1.out; omega); case rel => exact ⟨(wrap64 (aZ + 1)), zz6, H', ⟨zz99⟩, ⟨zz1⟩, ⟨zz26⟩⟩
   rw [if_pos c11] at H; have nP : decide (0 < aZ) = true := decide_eq_true c11; clear c11; obtain ⟨cE, mI⟩ : ∃ j_ : Int, (wrap64 (aZ - 1)) = j_ := ⟨_, rfl⟩; (replace H : (if 0 ≤ (cE) then (if (cE) < (aC.length : Int) then (if ((rd_T76 aC aZ).f0) < ((rd_T76 aC (cE)).f0) then (some false) else (if ((rd_T76 aC aZ).f0) = ((rd_T76 aC (cE)).f0) then (if ((rd_T76 aC aZ).f1) < ((rd_T76 aC (cE)).f1) then (some false) else (spec_GraphOk.l0 k1 aC (aC.length : Int) (wrap64 (aZ + 1)) aD aC)) else (spec_GraphOk.l0 k1 aC (aC.length : Int) (wrap64 (aZ + 1)) aD aC))) else (none)) else (none)) = some r := by first | (rw [mI] at H; exact H) | (simp only [mI] at H ⊢; exact H)); have MH : (IntKind.i64.wrap (aZ - 1)) = cE := (i64_w _).trans mI; by_cases c13 : 0 ≤ (cE); rotate_left
   ·rw [if_neg c13] at H; exact absurd H (by simp)
   rw [if_pos c13] at H; have kE := decide_eq_true c13; clear c13; by_cases c14 : (cE) < (aC.length : Int); rotate_left
   ·rw [if_neg c14] at H; exact absurd H (by simp)
   rw [if_pos c14] at H; have jB := decide_eq_true c14; clear c14; by_cases c15 : ((rd_T76 aC aZ).f0) < ((rd_T76 aC (cE)).f0)
   ·rw [if_pos c15] at H; have i6 := decide_eq_true c15; clear c15; obtain rfl := Option.some.inj H; have p103 : 0 ≤ (aZ : Int) := of_decide_eq_true zz4; have q103 : aZ < (aC.length : Int) := of_decide_eq_true zz4; obtain ⟨bZ, e103, bL, bV⟩ := at_T76 cB.out aZ p103 q103; cases e103; replace bL := (HB.out.cell (World.block_lt_of_cell? w _ bL)).trans bL; replace bV := (HB.out.cell (World.block_lt_of_cell? w _ bV)).trans bV; replace p103 := eq_true p103; replace q103 := eq_true q103; (try go_wp2_with (first | ((with_reducible refine gate_dst (N := 4) rfl ?_); refine box_event ?hg (N := 4) ?hd (cs := #[.int .i64 0, .int .i64 0]) (t := 76) ?hr ?_; (case hd => rfl); (case hg => rfl); (case hr => exact zz21); intro bE hg w16 hbox hb; have n_ := zA7 (blk_below (g := aE) (o := .cells #[.int .i64 aD, .slice (some bZ) aC.length aG] 30 (0, 0)) zz1 hb) (below_step zz0 hb) hbox (zz47 : w.heap.size ≤ bE) (zz47 : w.heap.size ≤ bE) (zz57 : aE ≠ bE) (zz58 : bE ≠ aE); clear aA HB; obtain ⟨aA, HB, bM, GW104, GE104, cK, cS⟩ := n_; clear hb hbox hg; have P2 := cS.out; have OX := cK.out; have m7 := zC20 bM; have m6 := zC21 bM; have mZ := blk_frozen bM.out 0; have mY := blk_frozen bM.out 1))); have n0_ : Aside0 (((w16.setCell ⟨bE, 0, none⟩ (.int .i64 ((rd_T76 aC aZ).f0))).setCell ⟨bE, 1, none⟩ (.int .i64 ((rd_T76 aC aZ).f1))).heap[aE]? = some (.cells #[.int .i64 aD, .slice (some bZ) aC.length aG] 30 (0, 0))) := ⟨zz36⟩; have n1_ : Aside0 (((w16.setCell ⟨bE, 0, none⟩ (.int .i64 ((rd_T76 aC aZ).f0))).setCell ⟨bE, 1, none⟩ (.int .i64 ((rd_T76 aC aZ).f1))).heap[bE]? = some (.cells #[.int .i64 ((rd_T76 aC aZ).f0), .int .i64 ((rd_T76 aC aZ).f1)] 76 (0, 0))) := ⟨zz46⟩; have n2_ : Aside0 (Below w.heap.size w ((w16.setCell ⟨bE, 0, none⟩ (.int .i64 ((rd_T76 aC aZ).f0))).setCell ⟨bE, 1, none⟩ (.int .i64 ((rd_T76 aC aZ).f1)))) := ⟨zz26⟩; (try clear aA); (try clear bM); (try clear HB); generalize ((w16.setCell ⟨bE, 0, none⟩ (.int .i64 ((rd_T76 aC aZ).f0))).setCell ⟨bE, 1, none⟩ (.int .i64 ((rd_T76 aC aZ).f1))) = w19 at n0_ n1_ n2_ ⊢; have aA := n0_; have bM := n1_; have HB := n2_; clear n0_ n1_ n2_; have n_ := zA3 (blk_drew aA.out) (blk_drew bM.out) (below_drew1 HB.out); clear aA bM HB; obtain ⟨aA, bM, HB⟩ := n_; have p105 : 0 ≤ ((cE) : Int) := of_decide_eq_true zz4; have q105 : (cE) < (aC.length : Int) := of_decide_eq_true zz4; obtain ⟨dW, e105, b9, dD⟩ := at_T76 cB.out (cE) p105 q105; have hw105_1 := dD; have hw105_0 := b9; obtain rfl : bZ = dW := (by injection e105); replace b9 := (HB.out.cell (World.block_lt_of_cell? w _ b9)).trans b9; replace dD := (HB.out.cell (World.block_lt_of_cell? w _ dD)).trans dD; replace p105 := eq_true p105; replace q105 := eq_true q105; refine start_ (n := 38) (S := fun w' => w'.cell? ⟨bE, 0, none⟩ = some (.int .i64 ((rd_T76 aC aZ).f0)) ∧ w'.cell? ⟨bE, 1, none⟩ = some (.int .i64 ((rd_T76 aC aZ).f1)) ∧ w'.cell? ⟨aE, 0, none⟩ = some (.int .i64 aD) ∧ w'.cell? ⟨aE, 1, none⟩ = some (.slice (some bZ) aC.length aG) ∧ w'.cell? (bZ.add (((cE)).toNat * 2)) = some (.int .i64 ((rd_T76 aC (cE)).f0)) ∧ w'.cell? ⟨(bZ.add (((cE)).toNat * 2)).block, (bZ.add (((cE)).toNat * 2)).off + 1, none⟩ = some (.int .i64 ((rd_T76 aC (cE)).f1))) (ds := []) (zM 38 0) (by kernel_rfl) rfl rfl ⟨(blk_cell bM.out 0).trans rfl, (blk_cell bM.out 1).trans rfl, (blk_cell aA.out 0).trans rfl, (blk_cell aA.out 1).trans rfl, ((HB.out.cell (World.block_lt_of_cell? w _ hw105_0)).trans hw105_0), ((HB.out.cell (World.block_lt_of_cell? w _ hw105_1)).trans hw105_1)⟩ (fun hHeld => ?_); refine with_tabW spec_GraphOk.tab6 spec_GraphOk.bits6 (fun HT_ HW_ => ?_); generalize w19.drew = w20 at aA bM HB b9 dD hHeld ⊢; refine zQ 0 16 (zM 38 1) ?_
    refine zQ 1 17 (zM 38 3) ?_
    refine zQ 2 18 (zM 38 7) ?_
    refine zQ 3 19 (zM 38 15) ?_
    refine zQ 5 21 (zM 38 47) ?_
    refine zQ 7 23 (zM 38 175) ?_
    refine zQ 8 24 (zM 38 431) ?_
    refine take_ (i := 4) (N := some 20) (v := ?_) (a' := ?_) (zM 38 447) rfl rfl (take_ofW HT_.out HW_.out (by kernel_rfl)) (fun _ _ _ h => h) (Or.inl ⟨by rfl, ?_⟩) hHeld ?_ ?_; rotate_left
    ·rintro w' ⟨s0, s1, s2, s3, s4, s5⟩; exact zzT
    rotate_left
    ·exact zzS
    refine take_ (i := 6) (N := some 22) (v := ?_) (a' := ?_) (zM 38 511) rfl rfl (take_ofW HT_.out HW_.out (by kernel_rfl)) (fun _ _ _ h => h) (Or.inl ⟨by rfl, ?_⟩) hHeld ?_ ?_; rotate_left
    ·rintro w' ⟨s0, s1, s2, s3, s4, s5⟩; exact zzT
    rotate_left
    ·exact zzS
    refine zQ 9 25 (zM 38 1023) ?_
    refine zQ 10 26 (zM 38 2047) ?_
    refine take_ (i := 11) (N := some 27) (v := ?_) (a' := ?_) (zM 38 4095) rfl rfl (take_ofW HT_.out HW_.out (by kernel_rfl)) (fun _ _ _ h => h) (Or.inl ⟨by rfl, ?_⟩) hHeld ?_ ?_; rotate_left
    ·rintro w' ⟨s0, s1, s2, s3, s4, s5⟩; exact zzT
    rotate_left
    ·exact zzS
    refine zQ 12 28 (zM 38 8191) ?_
    refine zQ 13 29 (zM 38 16383) ?_
    refine zU 14 30 (zM 38 32767) rfl rfl HT_.out ?_ ?_ ?_; rotate_left
    ·exact zzS
    refine zU 15 31 (zM 38 65535) rfl rfl HT_.out ?_ ?_ ?_; rotate_left
    ·exact zzS
    refine zU 16 32 (zM 38 131071) rfl rfl HT_.out ?_ ?_ ?_; rotate_left
    ·exact zzS
    refine zU 17 33 (zM 38 262143) rfl rfl HT_.out ?_ ?_ ?_; rotate_left
    ·exact zzS
    refine zU 18 34 (zM 38 524287) rfl rfl HT_.out ?_ ?_ ?_; rotate_left
    ·exact zzS
    refine zU 19 35 (zM 38 1048575) rfl rfl HT_.out ?_ ?_ ?_; rotate_left
    ·exact zzS
    refine zU 20 36 (zM 38 2097151) rfl rfl HT_.out ?_ ?_ ?_; rotate_left
    ·exact zzS
    refine zU 21 37 (zM 38 4194303) rfl rfl HT_.out ?_ ?_ ?_; rotate_left
    ·exact zzS
    refine zU 22 38 (zM 38 8388607) rfl rfl HT_.out ?_ ?_ ?_; rotate_left
    ·exact zzS
    refine zU 23 39 (zM 38 16777215) rfl rfl HT_.out ?_ ?_ ?_; rotate_left
    ·exact zzS
    refine zU 24 40 (zM 38 33554431) rfl rfl HT_.out ?_ ?_ ?_; rotate_left
    ·exact zzS
    refine zU 25 41 (zM 38 67108863) rfl rfl HT_.out ?_ ?_ ?_; rotate_left
    ·exact zzS
    refine zU 26 42 (zM 38 134217727) rfl rfl HT_.out ?_ ?_ ?_; rotate_left
    ·exact zzS
    refine zU 27 43 (zM 38 268435455) rfl rfl HT_.out ?_ ?_ ?_; rotate_left
    ·exact zzS
    refine zU 28 44 (zM 38 536870911) rfl rfl HT_.out ?_ ?_ ?_; rotate_left
    ·exact zzS
    refine zU 29 45 (zM 38 1073741823) rfl rfl HT_.out ?_ ?_ ?_; rotate_left
    ·exact zzS
    refine zU 30 46 (zM 38 2147483647) rfl rfl HT_.out ?_ ?_ ?_; rotate_left
    ·exact zzS
    refine zU 31 47 (zM 38 4294967295) rfl rfl HT_.out ?_ ?_ ?_; rotate_left
    ·exact zzS
    refine zU 32 48 (zM 38 8589934591) rfl rfl HT_.out ?_ ?_ ?_; rotate_left
    ·exact zzS
    refine zU 33 49 (zM 38 17179869183) rfl rfl HT_.out ?_ ?_ ?_; rotate_left
    ·exact zzS
    refine zU 34 50 (zM 38 34359738367) rfl rfl HT_.out ?_ ?_ ?_; rotate_left
    ·exact zzS
    refine zU 35 51 (zM 38 68719476735) rfl rfl HT_.out ?_ ?_ ?_; rotate_left
    ·exact zzS
    refine zQ 36 52 (zM 38 137438953471) ?_
    refine zQ 37 53 (zM 38 274877906943) ?_
    refine done_ (done_of HT_.out (by kernel_rfl)) ?_; (try go_wp2); go_ret; exact ⟨by first | rfl | (simp [errW_none, errW_some] <;> rfl) | (simp only [← mI]; first | rfl | (simp [errW_none, errW_some] <;> rfl)) | (simp [*, errW_none, errW_some] <;> rfl), zz26⟩
   rw [if_neg c15] at H; have i6 := decide_eq_false c15; clear c15; by_cases c21 : ((rd_T76 aC aZ).f0) = ((rd_T76 aC (cE)).f0); rotate_left
   ·rw [if_neg c21] at H; have oM : (((rd_T76 aC aZ).f0) == ((rd_T76 aC (cE)).f0)) = false := beq_eq_false_iff_ne.mpr c21; have u4 : (((rd_T76 aC aZ).f0) != ((rd_T76 aC (cE)).f0)) = true := bne_iff_ne.mpr c21; have H' := zK_ H; clear H; have p103 : 0 ≤ (aZ : Int) := of_decide_eq_true zz4; have q103 : aZ < (aC.length : Int) := of_decide_eq_true zz4; obtain ⟨bZ, e103, bL, bV⟩ := at_T76 cB.out aZ p103 q103; cases e103; replace bL := (HB.out.cell (World.block_lt_of_cell? w _ bL)).trans bL; replace bV := (HB.out.cell (World.block_lt_of_cell? w _ bV)).trans bV; replace p103 := eq_true p103; replace q103 := eq_true q103; (try go_wp2_with (first | ((with_reducible refine gate_dst (N := 4) rfl ?_); refine box_event ?hg (N := 4) ?hd (cs := #[.int .i64 0, .int .i64 0]) (t := 76) ?hr ?_; (case hd => rfl); (case hg => rfl); (case hr => exact zz21); intro bE hg w33 hbox hb; have n_ := zA7 (blk_below (g := aE) (o := .cells #[.int .i64 aD, .slice (some bZ) aC.length aG] 30 (0, 0)) zz1 hb) (below_step zz0 hb) hbox (zz47 : w.heap.size ≤ bE) (zz47 : w.heap.size ≤ bE) (zz57 : aE ≠ bE) (zz58 : bE ≠ aE); clear aA HB; obtain ⟨aA, HB, bM, GW104, GE104, cK, cS⟩ := n_; clear hb hbox hg; have xW := cS.out; have xS := cK.out; have j8 := zC20 bM; have j7 := zC21 bM; have j1 := blk_frozen bM.out 0; have jZ := blk_frozen bM.out 1))); have n0_ : Aside0 (((w33.setCell ⟨bE, 0, none⟩ (.int .i64 ((rd_T76 aC aZ).f0))).setCell ⟨bE, 1, none⟩ (.int .i64 ((rd_T76 aC aZ).f1))).heap[aE]? = some (.cells #[.int .i64 aD, .slice (some bZ) aC.length aG] 30 (0, 0))) := ⟨zz36⟩; have n1_ : Aside0 (((w33.setCell ⟨bE, 0, none⟩ (.int .i64 ((rd_T76 aC aZ).f0))).setCell ⟨bE, 1, none⟩ (.int .i64 ((rd_T76 aC aZ).f1))).heap[bE]? = some (.cells #[.int .i64 ((rd_T76 aC aZ).f0), .int .i64 ((rd_T76 aC aZ).f1)] 76 (0, 0))) := ⟨zz46⟩; have n2_ : Aside0 (Below w.heap.size w ((w33.setCell ⟨bE, 0, none⟩ (.int .i64 ((rd_T76 aC aZ).f0))).setCell ⟨bE, 1, none⟩ (.int .i64 ((rd_T76 aC aZ).f1)))) := ⟨zz26⟩; (try clear aA); (try clear bM); (try clear HB); generalize ((w33.setCell ⟨bE, 0, none⟩ (.int .i64 ((rd_T76 aC aZ).f0))).setCell ⟨bE, 1, none⟩ (.int .i64 ((rd_T76 aC aZ).f1))) = w36 at n0_ n1_ n2_ ⊢; have aA := n0_; have bM := n1_; have HB := n2_; clear n0_ n1_ n2_; have n_ := zA3 (blk_drew aA.out) (blk_drew bM.out) (below_drew1 HB.out); clear aA bM HB; obtain ⟨aA, bM, HB⟩ := n_; have p105 : 0 ≤ ((cE) : Int) := of_decide_eq_true zz4; have q105 : (cE) < (aC.length : Int) := of_decide_eq_true zz4; obtain ⟨dW, e105, b9, dD⟩ := at_T76 cB.out (cE) p105 q105; have hw105_1 := dD; have hw105_0 := b9; obtain rfl : bZ = dW := (by injection e105); replace b9 := (HB.out.cell (World.block_lt_of_cell? w _ b9)).trans b9; replace dD := (HB.out.cell (World.block_lt_of_cell? w _ dD)).trans dD; replace p105 := eq_true p105; replace q105 := eq_true q105; have p106 : 0 ≤ ((cE) : Int) := of_decide_eq_true zz4; have q106 : (cE) < (aC.length : Int) := of_decide_eq_true zz4; obtain ⟨oT, e106, d5, eR⟩ := at_T76 cB.out (cE) p106 q106; have hw106_1 := eR; have hw106_0 := d5; obtain rfl : bZ = oT := (by injection e106); replace d5 := (HB.out.cell (World.block_lt_of_cell? w _ d5)).trans d5; replace eR := (HB.out.cell (World.block_lt_of_cell? w _ eR)).trans eR; replace p106 := eq_true p106; replace q106 := eq_true q106; refine start_ (n := 38) (S := fun w' => w'.cell? ⟨bE, 0, none⟩ = some (.int .i64 ((rd_T76 aC aZ).f0)) ∧ w'.cell? ⟨bE, 1, none⟩ = some (.int .i64 ((rd_T76 aC aZ).f1)) ∧ w'.cell? ⟨aE, 0, none⟩ = some (.int .i64 aD) ∧ w'.cell? ⟨aE, 1, none⟩ = some (.slice (some bZ) aC.length aG) ∧ w'.cell? (bZ.add (((cE)).toNat * 2)) = some (.int .i64 ((rd_T76 aC (cE)).f0)) ∧ w'.cell? ⟨(bZ.add (((cE)).toNat * 2)).block, (bZ.add (((cE)).toNat * 2)).off + 1, none⟩ = some (.int .i64 ((rd_T76 aC (cE)).f1)) ∧ w'.cell? (bZ.add (((cE)).toNat * 2)) = some (.int .i64 ((rd_T76 aC (cE)).f0)) ∧ w'.cell? ⟨(bZ.add (((cE)).toNat * 2)).block, (bZ.add (((cE)).toNat * 2)).off + 1, none⟩ = some (.int .i64 ((rd_T76 aC (cE)).f1))) (ds := []) (zM 38 0) (by kernel_rfl) rfl rfl ⟨(blk_cell bM.out 0).trans rfl, (blk_cell bM.out 1).trans rfl, (blk_cell aA.out 0).trans rfl, (blk_cell aA.out 1).trans rfl, ((HB.out.cell (World.block_lt_of_cell? w _ hw105_0)).trans hw105_0), ((HB.out.cell (World.block_lt_of_cell? w _ hw105_1)).trans hw105_1), ((HB.out.cell (World.block_lt_of_cell? w _ hw106_0)).trans hw106_0), ((HB.out.cell (World.block_lt_of_cell? w _ hw106_1)).trans hw106_1)⟩ (fun hHeld => ?_); refine with_tabW spec_GraphOk.tab6 spec_GraphOk.bits6 (fun HT_ HW_ => ?_); generalize w36.drew = w37 at aA bM HB b9 dD d5 eR hHeld ⊢; refine zQ 0 16 (zM 38 1) ?_
    refine zQ 1 17 (zM 38 3) ?_
    refine zQ 2 18 (zM 38 7) ?_
    refine zQ 3 19 (zM 38 15) ?_
    refine zQ 5 21 (zM 38 47) ?_
    refine zQ 7 23 (zM 38 175) ?_
    refine zQ 8 24 (zM 38 431) ?_
    refine take_ (i := 4) (N := some 20) (v := ?_) (a' := ?_) (zM 38 447) rfl rfl (take_ofW HT_.out HW_.out (by kernel_rfl)) (fun _ _ _ h => h) (Or.inl ⟨by rfl, ?_⟩) hHeld ?_ ?_; rotate_left
    ·rintro w' ⟨s0, s1, s2, s3, s4, s5, s6, s7⟩; exact zzT
    rotate_left
    ·exact zzS
    refine take_ (i := 6) (N := some 22) (v := ?_) (a' := ?_) (zM 38 511) rfl rfl (take_ofW HT_.out HW_.out (by kernel_rfl)) (fun _ _ _ h => h) (Or.inl ⟨by rfl, ?_⟩) hHeld ?_ ?_; rotate_left
    ·rintro w' ⟨s0, s1, s2, s3, s4, s5, s6, s7⟩; exact zzT
    rotate_left
    ·exact zzS
    refine zQ 9 25 (zM 38 1023) ?_
    refine zQ 10 26 (zM 38 2047) ?_
    refine take_ (i := 11) (N := some 27) (v := ?_) (a' := ?_) (zM 38 4095) rfl rfl (take_ofW HT_.out HW_.out (by kernel_rfl)) (fun _ _ _ h => h) (Or.inl ⟨by rfl, ?_⟩) hHeld ?_ ?_; rotate_left
    ·rintro w' ⟨s0, s1, s2, s3, s4, s5, s6, s7⟩; exact zzT
    rotate_left
    ·exact zzS
    refine zQ 12 28 (zM 38 8191) ?_
    refine zQ 13 29 (zM 38 16383) ?_
    refine zQ 14 30 (zM 38 32767) ?_
    refine zQ 16 32 (zM 38 98303) ?_
    refine zQ 18 34 (zM 38 360447) ?_
    refine zQ 19 35 (zM 38 884735) ?_
    refine take_ (i := 15) (N := some 31) (v := ?_) (a' := ?_) (zM 38 917503) rfl rfl (take_ofW HT_.out HW_.out (by kernel_rfl)) (fun _ _ _ h => h) (Or.inl ⟨by rfl, ?_⟩) hHeld ?_ ?_; rotate_left
    ·rintro w' ⟨s0, s1, s2, s3, s4, s5, s6, s7⟩; exact zzT
    rotate_left
    ·exact zzS
    refine take_ (i := 17) (N := some 33) (v := ?_) (a' := ?_) (zM 38 1048575) rfl rfl (take_ofW HT_.out HW_.out (by kernel_rfl)) (fun _ _ _ h => h) (Or.inl ⟨by rfl, ?_⟩) hHeld ?_ ?_; rotate_left
    ·rintro w' ⟨s0, s1, s2, s3, s4, s5, s6, s7⟩; exact zzT
    rotate_left
    ·exact zzS
    refine zQ 20 36 (zM 38 2097151) ?_
    refine zQ 21 37 (zM 38 4194303) ?_
    refine take_ (i := 22) (N := some 38) (v := ?_) (a' := ?_) (zM 38 8388607) rfl rfl (take_ofW HT_.out HW_.out (by kernel_rfl)) (fun _ _ _ h => h) (Or.inl ⟨by rfl, ?_⟩) hHeld ?_ ?_; rotate_left
    ·rintro w' ⟨s0, s1, s2, s3, s4, s5, s6, s7⟩; exact zzT
    rotate_left
    ·exact zzS
    refine zQ 23 39 (zM 38 16777215) ?_
    refine zQ 24 40 (zM 38 33554431) ?_
    refine zU 25 41 (zM 38 67108863) rfl rfl HT_.out ?_ ?_ ?_; rotate_left
    ·exact zzS
    refine zU 26 42 (zM 38 134217727) rfl rfl HT_.out ?_ ?_ ?_; rotate_left
    ·exact zzS
    refine zU 27 43 (zM 38 268435455) rfl rfl HT_.out ?_ ?_ ?_; rotate_left
    ·exact zzS
    refine zU 28 44 (zM 38 536870911) rfl rfl HT_.out ?_ ?_ ?_; rotate_left
    ·exact zzS
    refine zU 29 45 (zM 38 1073741823) rfl rfl HT_.out ?_ ?_ ?_; rotate_left
    ·exact zzS
    refine zU 30 46 (zM 38 2147483647) rfl rfl HT_.out ?_ ?_ ?_; rotate_left
    ·exact zzS
    refine zU 31 47 (zM 38 4294967295) rfl rfl HT_.out ?_ ?_ ?_; rotate_left
    ·exact zzS
    refine zU 32 48 (zM 38 8589934591) rfl rfl HT_.out ?_ ?_ ?_; rotate_left
    ·exact zzS
    refine zU 33 49 (zM 38 17179869183) rfl rfl HT_.out ?_ ?_ ?_; rotate_left
    ·exact zzS
    refine zU 34 50 (zM 38 34359738367) rfl rfl HT_.out ?_ ?_ ?_; rotate_left
    ·exact zzS
    refine zQ 35 51 (zM 38 68719476735) ?_
    refine zQ 36 52 (zM 38 137438953471) ?_
    refine zQ 37 53 (zM 38 274877906943) ?_
    refine done_ (done_of HT_.out (by kernel_rfl)) ?_; (try go_wp2); go_roundg k1; (case measure => have := HK1.out; omega); case rel => exact ⟨(wrap64 (aZ + 1)), zz6, H', ⟨zz99⟩, ⟨zz1⟩, ⟨zz26⟩⟩
   rw [if_pos c21] at H; have oM : (((rd_T76 aC aZ).f0) == ((rd_T76 aC (cE)).f0)) = true := beq_iff_eq.mpr c21; have u4 : (((rd_T76 aC aZ).f0) != ((rd_T76 aC (cE)).f0)) = false := bne_eq_false_iff_eq.mpr c21; clear c21; by_cases c22 : ((rd_T76 aC aZ).f1) < ((rd_T76 aC (cE)).f1)
   ·rw [if_pos c22] at H; have tJ := decide_eq_true c22; clear c22; obtain rfl := Option.some.inj H; have p103 : 0 ≤ (aZ : Int) := of_decide_eq_true zz4; have q103 : aZ < (aC.length : Int) := of_decide_eq_true zz4; obtain ⟨bZ, e103, bL, bV⟩ := at_T76 cB.out aZ p103 q103; cases e103; replace bL := (HB.out.cell (World.block_lt_of_cell? w _ bL)).trans bL; replace bV := (HB.out.cell (World.block_lt_of_cell? w _ bV)).trans bV; replace p103 := eq_true p103; replace q103 := eq_true q103; (try go_wp2_with (first | ((with_reducible refine gate_dst (N := 4) rfl ?_); refine box_event ?hg (N := 4) ?hd (cs := #[.int .i64 0, .int .i64 0]) (t := 76) ?hr ?_; (case hd => rfl); (case hg => rfl); (case hr => exact zz21); intro bE hg w23 hbox hb; have n_ := zA7 (blk_below (g := aE) (o := .cells #[.int .i64 aD, .slice (some bZ) aC.length aG] 30 (0, 0)) zz1 hb) (below_step zz0 hb) hbox (zz47 : w.heap.size ≤ bE) (zz47 : w.heap.size ≤ bE) (zz57 : aE ≠ bE) (zz58 : bE ≠ aE); clear aA HB; obtain ⟨aA, HB, bM, GW104, GE104, cK, cS⟩ := n_; clear hb hbox hg; have PY := cS.out; have OT := cK.out; have gN := zC20 bM; have gM := zC21 bM; have gG := blk_frozen bM.out 0; have gF := blk_frozen bM.out 1))); have n0_ : Aside0 (((w23.setCell ⟨bE, 0, none⟩ (.int .i64 ((rd_T76 aC aZ).f0))).setCell ⟨bE, 1, none⟩ (.int .i64 ((rd_T76 aC aZ).f1))).heap[aE]? = some (.cells #[.int .i64 aD, .slice (some bZ) aC.length aG] 30 (0, 0))) := ⟨zz36⟩; have n1_ : Aside0 (((w23.setCell ⟨bE, 0, none⟩ (.int .i64 ((rd_T76 aC aZ).f0))).setCell ⟨bE, 1, none⟩ (.int .i64 ((rd_T76 aC aZ).f1))).heap[bE]? = some (.cells #[.int .i64 ((rd_T76 aC aZ).f0), .int .i64 ((rd_T76 aC aZ).f1)] 76 (0, 0))) := ⟨zz46⟩; have n2_ : Aside0 (Below w.heap.size w ((w23.setCell ⟨bE, 0, none⟩ (.int .i64 ((rd_T76 aC aZ).f0))).setCell ⟨bE, 1, none⟩ (.int .i64 ((rd_T76 aC aZ).f1)))) := ⟨zz26⟩; (try clear aA); (try clear bM); (try clear HB); generalize ((w23.setCell ⟨bE, 0, none⟩ (.int .i64 ((rd_T76 aC aZ).f0))).setCell ⟨bE, 1, none⟩ (.int .i64 ((rd_T76 aC aZ).f1))) = w26 at n0_ n1_ n2_ ⊢; have aA := n0_; have bM := n1_; have HB := n2_; clear n0_ n1_ n2_; have n_ := zA3 (blk_drew aA.out) (blk_drew bM.out) (below_drew1 HB.out); clear aA bM HB; obtain ⟨aA, bM, HB⟩ := n_; have p105 : 0 ≤ ((cE) : Int) := of_decide_eq_true zz4; have q105 : (cE) < (aC.length : Int) := of_decide_eq_true zz4; obtain ⟨dW, e105, b9, dD⟩ := at_T76 cB.out (cE) p105 q105; have hw105_1 := dD; have hw105_0 := b9; obtain rfl : bZ = dW := (by injection e105); replace b9 := (HB.out.cell (World.block_lt_of_cell? w _ b9)).trans b9; replace dD := (HB.out.cell (World.block_lt_of_cell? w _ dD)).trans dD; replace p105 := eq_true p105; replace q105 := eq_true q105; have p106 : 0 ≤ ((cE) : Int) := of_decide_eq_true zz4; have q106 : (cE) < (aC.length : Int) := of_decide_eq_true zz4; obtain ⟨oT, e106, d5, eR⟩ := at_T76 cB.out (cE) p106 q106; have hw106_1 := eR; have hw106_0 := d5; obtain rfl : bZ = oT := (by injection e106); replace d5 := (HB.out.cell (World.block_lt_of_cell? w _ d5)).trans d5; replace eR := (HB.out.cell (World.block_lt_of_cell? w _ eR)).trans eR; replace p106 := eq_true p106; replace q106 := eq_true q106; have p107 : 0 ≤ ((cE) : Int) := of_decide_eq_true zz4; have q107 : (cE) < (aC.length : Int) := of_decide_eq_true zz4; obtain ⟨nD, e107, dS, hZ⟩ := at_T76 cB.out (cE) p107 q107; have hw107_1 := hZ; have hw107_0 := dS; obtain rfl : bZ = nD := (by injection e107); replace dS := (HB.out.cell (World.block_lt_of_cell? w _ dS)).trans dS; replace hZ := (HB.out.cell (World.block_lt_of_cell? w _ hZ)).trans hZ; replace p107 := eq_true p107; replace q107 := eq_true q107; refine start_ (n := 38) (S := fun w' => w'.cell? ⟨bE, 0, none⟩ = some (.int .i64 ((rd_T76 aC aZ).f0)) ∧ w'.cell? ⟨bE, 1, none⟩ = some (.int .i64 ((rd_T76 aC aZ).f1)) ∧ w'.cell? ⟨aE, 0, none⟩ = some (.int .i64 aD) ∧ w'.cell? ⟨aE, 1, none⟩ = some (.slice (some bZ) aC.length aG) ∧ w'.cell? (bZ.add (((cE)).toNat * 2)) = some (.int .i64 ((rd_T76 aC (cE)).f0)) ∧ w'.cell? ⟨(bZ.add (((cE)).toNat * 2)).block, (bZ.add (((cE)).toNat * 2)).off + 1, none⟩ = some (.int .i64 ((rd_T76 aC (cE)).f1)) ∧ w'.cell? (bZ.add (((cE)).toNat * 2)) = some (.int .i64 ((rd_T76 aC (cE)).f0)) ∧ w'.cell? ⟨(bZ.add (((cE)).toNat * 2)).block, (bZ.add (((cE)).toNat * 2)).off + 1, none⟩ = some (.int .i64 ((rd_T76 aC (cE)).f1)) ∧ w'.cell? (bZ.add (((cE)).toNat * 2)) = some (.int .i64 ((rd_T76 aC (cE)).f0)) ∧ w'.cell? ⟨(bZ.add (((cE)).toNat * 2)).block, (bZ.add (((cE)).toNat * 2)).off + 1, none⟩ = some (.int .i64 ((rd_T76 aC (cE)).f1))) (ds := []) (zM 38 0) (by kernel_rfl) rfl rfl ⟨(blk_cell bM.out 0).trans rfl, (blk_cell bM.out 1).trans rfl, (blk_cell aA.out 0).trans rfl, (blk_cell aA.out 1).trans rfl, ((HB.out.cell (World.block_lt_of_cell? w _ hw105_0)).trans hw105_0), ((HB.out.cell (World.block_lt_of_cell? w _ hw105_1)).trans hw105_1), ((HB.out.cell (World.block_lt_of_cell? w _ hw106_0)).trans hw106_0), ((HB.out.cell (World.block_lt_of_cell? w _ hw106_1)).trans hw106_1), ((HB.out.cell (World.block_lt_of_cell? w _ hw107_0)).trans hw107_0), ((HB.out.cell (World.block_lt_of_cell? w _ hw107_1)).trans hw107_1)⟩ (fun hHeld => ?_); refine with_tabW spec_GraphOk.tab6 spec_GraphOk.bits6 (fun HT_ HW_ => ?_); generalize w26.drew = w27 at aA bM HB b9 dD d5 eR dS hZ hHeld ⊢; refine zQ 0 16 (zM 38 1) ?_
    refine zQ 1 17 (zM 38 3) ?_
    refine zQ 2 18 (zM 38 7) ?_
    refine zQ 3 19 (zM 38 15) ?_
    refine zQ 5 21 (zM 38 47) ?_
    refine zQ 7 23 (zM 38 175) ?_
    refine zQ 8 24 (zM 38 431) ?_
    refine take_ (i := 4) (N := some 20) (v := ?_) (a' := ?_) (zM 38 447) rfl rfl (take_ofW HT_.out HW_.out (by kernel_rfl)) (fun _ _ _ h => h) (Or.inl ⟨by rfl, ?_⟩) hHeld ?_ ?_; rotate_left
    ·rintro w' ⟨s0, s1, s2, s3, s4, s5, s6, s7, s8, s9⟩; exact zzT
    rotate_left
    ·exact zzS
    refine take_ (i := 6) (N := some 22) (v := ?_) (a' := ?_) (zM 38 511) rfl rfl (take_ofW HT_.out HW_.out (by kernel_rfl)) (fun _ _ _ h => h) (Or.inl ⟨by rfl, ?_⟩) hHeld ?_ ?_; rotate_left
    ·rintro w' ⟨s0, s1, s2, s3, s4, s5, s6, s7, s8, s9⟩; exact zzT
    rotate_left
    ·exact zzS
    refine zQ 9 25 (zM 38 1023) ?_
    refine zQ 10 26 (zM 38 2047) ?_
    refine take_ (i := 11) (N := some 27) (v := ?_) (a' := ?_) (zM 38 4095) rfl rfl (take_ofW HT_.out HW_.out (by kernel_rfl)) (fun _ _ _ h => h) (Or.inl ⟨by rfl, ?_⟩) hHeld ?_ ?_; rotate_left
    ·rintro w' ⟨s0, s1, s2, s3, s4, s5, s6, s7, s8, s9⟩; exact zzT
    rotate_left
    ·exact zzS
    refine zQ 12 28 (zM 38 8191) ?_
    refine zQ 13 29 (zM 38 16383) ?_
    refine zQ 14 30 (zM 38 32767) ?_
    refine zQ 16 32 (zM 38 98303) ?_
    refine zQ 18 34 (zM 38 360447) ?_
    refine zQ 19 35 (zM 38 884735) ?_
    refine take_ (i := 15) (N := some 31) (v := ?_) (a' := ?_) (zM 38 917503) rfl rfl (take_ofW HT_.out HW_.out (by kernel_rfl)) (fun _ _ _ h => h) (Or.inl ⟨by rfl, ?_⟩) hHeld ?_ ?_; rotate_left
    ·rintro w' ⟨s0, s1, s2, s3, s4, s5, s6, s7, s8, s9⟩; exact zzT
    rotate_left
    ·exact zzS
    refine take_ (i := 17) (N := some 33) (v := ?_) (a' := ?_) (zM 38 1048575) rfl rfl (take_ofW HT_.out HW_.out (by kernel_rfl)) (fun _ _ _ h => h) (Or.inl ⟨by rfl, ?_⟩) hHeld ?_ ?_; rotate_left
    ·rintro w' ⟨s0, s1, s2, s3, s4, s5, s6, s7, s8, s9⟩; exact zzT
    rotate_left
    ·exact zzS
    refine zQ 20 36 (zM 38 2097151) ?_
    refine zQ 21 37 (zM 38 4194303) ?_
    refine take_ (i := 22) (N := some 38) (v := ?_) (a' := ?_) (zM 38 8388607) rfl rfl (take_ofW HT_.out HW_.out (by kernel_rfl)) (fun _ _ _ h => h) (Or.inl ⟨by rfl, ?_⟩) hHeld ?_ ?_; rotate_left
    ·rintro w' ⟨s0, s1, s2, s3, s4, s5, s6, s7, s8, s9⟩; exact zzT
    rotate_left
    ·exact zzS
    refine zQ 23 39 (zM 38 16777215) ?_
    refine zQ 24 40 (zM 38 33554431) ?_
    refine zQ 25 41 (zM 38 67108863) ?_
    refine zQ 27 43 (zM 38 201326591) ?_
    refine zQ 29 45 (zM 38 738197503) ?_
    refine zQ 30 46 (zM 38 1811939327) ?_
    refine take_ (i := 26) (N := some 42) (v := ?_) (a' := ?_) (zM 38 1879048191) rfl rfl (take_ofW HT_.out HW_.out (by kernel_rfl)) (fun _ _ _ h => h) (Or.inl ⟨by rfl, ?_⟩) hHeld ?_ ?_; rotate_left
    ·rintro w' ⟨s0, s1, s2, s3, s4, s5, s6, s7, s8, s9⟩; exact zzT
    rotate_left
    ·exact zzS
    refine take_ (i := 28) (N := some 44) (v := ?_) (a' := ?_) (zM 38 2147483647) rfl rfl (take_ofW HT_.out HW_.out (by kernel_rfl)) (fun _ _ _ h => h) (Or.inl ⟨by rfl, ?_⟩) hHeld ?_ ?_; rotate_left
    ·rintro w' ⟨s0, s1, s2, s3, s4, s5, s6, s7, s8, s9⟩; exact zzT
    rotate_left
    ·exact zzS
    refine zQ 31 47 (zM 38 4294967295) ?_
    refine zQ 32 48 (zM 38 8589934591) ?_
    refine take_ (i := 33) (N := some 49) (v := ?_) (a' := ?_) (zM 38 17179869183) rfl rfl (take_ofW HT_.out HW_.out (by kernel_rfl)) (fun _ _ _ h => h) (Or.inl ⟨by rfl, ?_⟩) hHeld ?_ ?_; rotate_left
    ·rintro w' ⟨s0, s1, s2, s3, s4, s5, s6, s7, s8, s9⟩; exact zzT
    rotate_left
    ·exact zzS
    refine zQ 34 50 (zM 38 34359738367) ?_
    refine zQ 35 51 (zM 38 68719476735) ?_
    refine zQ 36 52 (zM 38 137438953471) ?_
    refine zQ 37 53 (zM 38 274877906943) ?_
    refine done_ (done_of HT_.out (by kernel_rfl)) ?_; (try go_wp2); go_ret; exact ⟨by first | rfl | (simp [errW_none, errW_some] <;> rfl) | (simp only [← mI]; first | rfl | (simp [errW_none, errW_some] <;> rfl)) | (simp [*, errW_none, errW_some] <;> rfl), zz26⟩
   rw [if_neg c22] at H; have tJ := decide_eq_false c22; clear c22; have H' := zK_ H; clear H; have p103 : 0 ≤ (aZ : Int) := of_decide_eq_true zz4; have q103 : aZ < (aC.length : Int) := of_decide_eq_true zz4; obtain ⟨bZ, e103, bL, bV⟩ := at_T76 cB.out aZ p103 q103; cases e103; replace bL := (HB.out.cell (World.block_lt_of_cell? w _ bL)).trans bL; replace bV := (HB.out.cell (World.block_lt_of_cell? w _ bV)).trans bV; replace p103 := eq_true p103; replace q103 := eq_true q103; (try go_wp2_with (first | ((with_reducible refine gate_dst (N := 4) rfl ?_); refine box_event ?hg (N := 4) ?hd (cs := #[.int .i64 0, .int .i64 0]) (t := 76) ?hr ?_; (case hd => rfl); (case hg => rfl); (case hr => exact zz21); intro bE hg w28 hbox hb; have n_ := zA7 (blk_below (g := aE) (o := .cells #[.int .i64 aD, .slice (some bZ) aC.length aG] 30 (0, 0)) zz1 hb) (below_step zz0 hb) hbox (zz47 : w.heap.size ≤ bE) (zz47 : w.heap.size ≤ bE) (zz57 : aE ≠ bE) (zz58 : bE ≠ aE); clear aA HB; obtain ⟨aA, HB, bM, GW104, GE104, cK, cS⟩ := n_; clear hb hbox hg; have BH := cS.out; have AT := cK.out; have m3 := zC20 bM; have m2 := zC21 bM; have mX := blk_frozen bM.out 0; have mW := blk_frozen bM.out 1))); have n0_ : Aside0 (((w28.setCell ⟨bE, 0, none⟩ (.int .i64 ((rd_T76 aC aZ).f0))).setCell ⟨bE, 1, none⟩ (.int .i64 ((rd_T76 aC aZ).f1))).heap[aE]? = some (.cells #[.int .i64 aD, .slice (some bZ) aC.length aG] 30 (0, 0))) := ⟨zz36⟩; have n1_ : Aside0 (((w28.setCell ⟨bE, 0, none⟩ (.int .i64 ((rd_T76 aC aZ).f0))).setCell ⟨bE, 1, none⟩ (.int .i64 ((rd_T76 aC aZ).f1))).heap[bE]? = some (.cells #[.int .i64 ((rd_T76 aC aZ).f0), .int .i64 ((rd_T76 aC aZ).f1)] 76 (0, 0))) := ⟨zz46⟩; have n2_ : Aside0 (Below w.heap.size w ((w28.setCell ⟨bE, 0, none⟩ (.int .i64 ((rd_T76 aC aZ).f0))).setCell ⟨bE, 1, none⟩ (.int .i64 ((rd_T76 aC aZ).f1)))) := ⟨zz26⟩; (try clear aA); (try clear bM); (try clear HB); generalize ((w28.setCell ⟨bE, 0, none⟩ (.int .i64 ((rd_T76 aC aZ).f0))).setCell ⟨bE, 1, none⟩ (.int .i64 ((rd_T76 aC aZ).f1))) = w31 at n0_ n1_ n2_ ⊢; have aA := n0_; have bM := n1_; have HB := n2_; clear n0_ n1_ n2_; have n_ := zA3 (blk_drew aA.out) (blk_drew bM.out) (below_drew1 HB.out); clear aA bM HB; obtain ⟨aA, bM, HB⟩ := n_; have p105 : 0 ≤ ((cE) : Int) := of_decide_eq_true zz4; have q105 : (cE) < (aC.length : Int) := of_decide_eq_true zz4; obtain ⟨dW, e105, b9, dD⟩ := at_T76 cB.out (cE) p105 q105; have hw105_1 := dD; have hw105_0 := b9; obtain rfl : bZ = dW := (by injection e105); replace b9 := (HB.out.cell (World.block_lt_of_cell? w _ b9)).trans b9; replace dD := (HB.out.cell (World.block_lt_of_cell? w _ dD)).trans dD; replace p105 := eq_true p105; replace q105 := eq_true q105; have p106 : 0 ≤ ((cE) : Int) := of_decide_eq_true zz4; have q106 : (cE) < (aC.length : Int) := of_decide_eq_true zz4; obtain ⟨oT, e106, d5, eR⟩ := at_T76 cB.out (cE) p106 q106; have hw106_1 := eR; have hw106_0 := d5; obtain rfl : bZ = oT := (by injection e106); replace d5 := (HB.out.cell (World.block_lt_of_cell? w _ d5)).trans d5; replace eR := (HB.out.cell (World.block_lt_of_cell? w _ eR)).trans eR; replace p106 := eq_true p106; replace q106 := eq_true q106; have p107 : 0 ≤ ((cE) : Int) := of_decide_eq_true zz4; have q107 : (cE) < (aC.length : Int) := of_decide_eq_true zz4; obtain ⟨nD, e107, dS, hZ⟩ := at_T76 cB.out (cE) p107 q107; have hw107_1 := hZ; have hw107_0 := dS; obtain rfl : bZ = nD := (by injection e107); replace dS := (HB.out.cell (World.block_lt_of_cell? w _ dS)).trans dS; replace hZ := (HB.out.cell (World.block_lt_of_cell? w _ hZ)).trans hZ; replace p107 := eq_true p107; replace q107 := eq_true q107; refine start_ (n := 38) (S := fun w' => w'.cell? ⟨bE, 0, none⟩ = some (.int .i64 ((rd_T76 aC aZ).f0)) ∧ w'.cell? ⟨bE, 1, none⟩ = some (.int .i64 ((rd_T76 aC aZ).f1)) ∧ w'.cell? ⟨aE, 0, none⟩ = some (.int .i64 aD) ∧ w'.cell? ⟨aE, 1, none⟩ = some (.slice (some bZ) aC.length aG) ∧ w'.cell? (bZ.add (((cE)).toNat * 2)) = some (.int .i64 ((rd_T76 aC (cE)).f0)) ∧ w'.cell? ⟨(bZ.add (((cE)).toNat * 2)).block, (bZ.add (((cE)).toNat * 2)).off + 1, none⟩ = some (.int .i64 ((rd_T76 aC (cE)).f1)) ∧ w'.cell? (bZ.add (((cE)).toNat * 2)) = some (.int .i64 ((rd_T76 aC (cE)).f0)) ∧ w'.cell? ⟨(bZ.add (((cE)).toNat * 2)).block, (bZ.add (((cE)).toNat * 2)).off + 1, none⟩ = some (.int .i64 ((rd_T76 aC (cE)).f1)) ∧ w'.cell? (bZ.add (((cE)).toNat * 2)) = some (.int .i64 ((rd_T76 aC (cE)).f0)) ∧ w'.cell? ⟨(bZ.add (((cE)).toNat * 2)).block, (bZ.add (((cE)).toNat * 2)).off + 1, none⟩ = some (.int .i64 ((rd_T76 aC (cE)).f1))) (ds := []) (zM 38 0) (by kernel_rfl) rfl rfl ⟨(blk_cell bM.out 0).trans rfl, (blk_cell bM.out 1).trans rfl, (blk_cell aA.out 0).trans rfl, (blk_cell aA.out 1).trans rfl, ((HB.out.cell (World.block_lt_of_cell? w _ hw105_0)).trans hw105_0), ((HB.out.cell (World.block_lt_of_cell? w _ hw105_1)).trans hw105_1), ((HB.out.cell (World.block_lt_of_cell? w _ hw106_0)).trans hw106_0), ((HB.out.cell (World.block_lt_of_cell? w _ hw106_1)).trans hw106_1), ((HB.out.cell (World.block_lt_of_cell? w _ hw107_0)).trans hw107_0), ((HB.out.cell (World.block_lt_of_cell? w _ hw107_1)).trans hw107_1)⟩ (fun hHeld => ?_); refine with_tabW spec_GraphOk.tab6 spec_GraphOk.bits6 (fun HT_ HW_ => ?_); generalize w31.drew = w32 at aA bM HB b9 dD d5 eR dS hZ hHeld ⊢; refine zQ 0 16 (zM 38 1) ?_
   refine zQ 1 17 (zM 38 3) ?_
   refine zQ 2 18 (zM 38 7) ?_
   refine zQ 3 19 (zM 38 15) ?_
   refine zQ 5 21 (zM 38 47) ?_
   refine zQ 7 23 (zM 38 175) ?_
   refine zQ 8 24 (zM 38 431) ?_
   refine take_ (i := 4) (N := some 20) (v := ?_) (a' := ?_) (zM 38 447) rfl rfl (take_ofW HT_.out HW_.out (by kernel_rfl)) (fun _ _ _ h => h) (Or.inl ⟨by rfl, ?_⟩) hHeld ?_ ?_; rotate_left
   ·rintro w' ⟨s0, s1, s2, s3, s4, s5, s6, s7, s8, s9⟩; exact zzT
   rotate_left
   ·exact zzS
   refine take_ (i := 6) (N := some 22) (v := ?_) (a' := ?_) (zM 38 511) rfl rfl (take_ofW HT_.out HW_.out (by kernel_rfl)) (fun _ _ _ h => h) (Or.inl ⟨by rfl, ?_⟩) hHeld ?_ ?_; rotate_left
   ·rintro w' ⟨s0, s1, s2, s3, s4, s5, s6, s7, s8, s9⟩; exact zzT
   rotate_left
   ·exact zzS
   refine zQ 9 25 (zM 38 1023) ?_
   refine zQ 10 26 (zM 38 2047) ?_
   refine take_ (i := 11) (N := some 27) (v := ?_) (a' := ?_) (zM 38 4095) rfl rfl (take_ofW HT_.out HW_.out (by kernel_rfl)) (fun _ _ _ h => h) (Or.inl ⟨by rfl, ?_⟩) hHeld ?_ ?_; rotate_left
   ·rintro w' ⟨s0, s1, s2, s3, s4, s5, s6, s7, s8, s9⟩; exact zzT
   rotate_left
   ·exact zzS
   refine zQ 12 28 (zM 38 8191) ?_
   refine zQ 13 29 (zM 38 16383) ?_
   refine zQ 14 30 (zM 38 32767) ?_
   refine zQ 16 32 (zM 38 98303) ?_
   refine zQ 18 34 (zM 38 360447) ?_
   refine zQ 19 35 (zM 38 884735) ?_
   refine take_ (i := 15) (N := some 31) (v := ?_) (a' := ?_) (zM 38 917503) rfl rfl (take_ofW HT_.out HW_.out (by kernel_rfl)) (fun _ _ _ h => h) (Or.inl ⟨by rfl, ?_⟩) hHeld ?_ ?_; rotate_left
   ·rintro w' ⟨s0, s1, s2, s3, s4, s5, s6, s7, s8, s9⟩; exact zzT
   rotate_left
   ·exact zzS
   refine take_ (i := 17) (N := some 33) (v := ?_) (a' := ?_) (zM 38 1048575) rfl rfl (take_ofW HT_.out HW_.out (by kernel_rfl)) (fun _ _ _ h => h) (Or.inl ⟨by rfl, ?_⟩) hHeld ?_ ?_; rotate_left
   ·rintro w' ⟨s0, s1, s2, s3, s4, s5, s6, s7, s8, s9⟩; exact zzT
   rotate_left
   ·exact zzS
   refine zQ 20 36 (zM 38 2097151) ?_
   refine zQ 21 37 (zM 38 4194303) ?_
   refine take_ (i := 22) (N := some 38) (v := ?_) (a' := ?_) (zM 38 8388607) rfl rfl (take_ofW HT_.out HW_.out (by kernel_rfl)) (fun _ _ _ h => h) (Or.inl ⟨by rfl, ?_⟩) hHeld ?_ ?_; rotate_left
   ·rintro w' ⟨s0, s1, s2, s3, s4, s5, s6, s7, s8, s9⟩; exact zzT
   rotate_left
   ·exact zzS
   refine zQ 23 39 (zM 38 16777215) ?_
   refine zQ 24 40 (zM 38 33554431) ?_
   refine zQ 25 41 (zM 38 67108863) ?_
   refine zQ 27 43 (zM 38 201326591) ?_
   refine zQ 29 45 (zM 38 738197503) ?_
   refine zQ 30 46 (zM 38 1811939327) ?_
   refine take_ (i := 26) (N := some 42) (v := ?_) (a' := ?_) (zM 38 1879048191) rfl rfl (take_ofW HT_.out HW_.out (by kernel_rfl)) (fun _ _ _ h => h) (Or.inl ⟨by rfl, ?_⟩) hHeld ?_ ?_; rotate_left
   ·rintro w' ⟨s0, s1, s2, s3, s4, s5, s6, s7, s8, s9⟩; exact zzT
   rotate_left
   ·exact zzS
   refine take_ (i := 28) (N := some 44) (v := ?_) (a' := ?_) (zM 38 2147483647) rfl rfl (take_ofW HT_.out HW_.out (by kernel_rfl)) (fun _ _ _ h => h) (Or.inl ⟨by rfl, ?_⟩) hHeld ?_ ?_; rotate_left
   ·rintro w' ⟨s0, s1, s2, s3, s4, s5, s6, s7, s8, s9⟩; exact zzT
   rotate_left
   ·exact zzS
   refine zQ 31 47 (zM 38 4294967295) ?_
   refine zQ 32 48 (zM 38 8589934591) ?_
   refine take_ (i := 33) (N := some 49) (v := ?_) (a' := ?_) (zM 38 17179869183) rfl rfl (take_ofW HT_.out HW_.out (by kernel_rfl)) (fun _ _ _ h => h) (Or.inl ⟨by rfl, ?_⟩) hHeld ?_ ?_; rotate_left
   ·rintro w' ⟨s0, s1, s2, s3, s4, s5, s6, s7, s8, s9⟩; exact zzT
   rotate_left
   ·exact zzS
   refine zQ 34 50 (zM 38 34359738367) ?_
   refine zQ 35 51 (zM 38 68719476735) ?_
   refine zQ 36 52 (zM 38 137438953471) ?_
   refine zQ 37 53 (zM 38 274877906943) ?_
   refine done_ (done_of HT_.out (by kernel_rfl)) ?_; (try go_wp2); go_roundg k1; (case measure => have := HK1.out; omega); case rel => exact ⟨(wrap64 (aZ + 1)), zz6, H', ⟨zz99⟩, ⟨zz1⟩, ⟨zz26⟩⟩
end Go.Proofs.Ytkcbinohpdhbgaa.P
end

section
namespace Go.Proofs.Ytkcbinohpdhbgaa.Cf
set_option linter.unusedVariables false
set_option linter.unusedSimpArgs false
open Go.RowKit Go.Proofs.YtkcbinohpdhbgaaW.PrintWords Go.Proofs.Ytkcbinohpdhbgaa.P
theorem rdE_get {es : List E} {i : Nat} (h : i < es.length) : rd_T76 es (i : Int) = es[i] := by simp [rd_T76, List.getD, h]
theorem l01In_eq (a b c : Int) : spec_l01In.f a b c = some (decide (b ≤ a ∧ a ≤ c)) := by
 unfold spec_l01In.f
 by_cases h : a ≥ b
 ·rw [if_pos h]
  have : (b ≤ a ∧ a ≤ c) ↔ a ≤ c := ⟨fun x => x.2, fun x => ⟨h, x⟩⟩
  simp only [this]
 ·rw [if_neg h]
  have : ¬ (b ≤ a ∧ a ≤ c) := fun x => h x.1
  simp only [this, decide_false]
theorem forall_drop {es : List E} {P : E → Prop} {i : Nat} (h : i < es.length) : (∀ e ∈ es.drop i, P e) ↔ (P es[i] ∧ ∀ e ∈ es.drop (i + 1), P e) := by
 rw [List.drop_eq_getElem_cons h]
 simp only [List.mem_cons, forall_eq_or_imp]
theorem specEdges_l0 (n : Int) (hn : 1 ≤ n ∧ n ≤ 6) (es : List E) (hl : es.length ≤ 12) : ∀ (d i : Nat), i + d = es.length → Ep (fun k => spec_EdgesOk.l0 k es (es.length : Int) (i : Int) n es) (· = decide (∀ e ∈ es.drop i, EOk n e)) := by
 intro d
 induction d with
 | zero =>
  intro i hi
  refine Ep.up ?_
  simp only [spec_EdgesOk.l0]
  refine Ep.neg (by omega) (Ep.now ?_)
  rw [List.drop_of_length_le (by omega)]
  simp
 | succ d ih =>
  intro i hi
  have hlt : i < es.length := by omega
  refine Ep.up ?_
  simp only [spec_EdgesOk.l0]
  refine Ep.pos (by omega) (Ep.pos (by omega) (Ep.pos (by omega) ?_))
  rw [rdE_get hlt, wrap_id (x := n - 1) (by omega) (by omega)]
  refine Ep.bind0 (l01In_eq _ _ _) ?_
  refine Ep.ite (fun h0 => ?_) (fun h0 => Ep.now ?_)
  ·have h0' : 0 ≤ es[i].f0 ∧ es[i].f0 ≤ n - 1 := by simpa using h0
   rw [wrap_id (x := es[i].f0 + 1) (by omega) (by omega)]
   refine Ep.bind0 (l01In_eq _ _ _) ?_
   refine Ep.ite (fun h1 => ?_) (fun h1 => Ep.now ?_)
   ·have h1' : es[i].f0 + 1 ≤ es[i].f1 ∧ es[i].f1 ≤ n - 1 := by simpa using h1
    rw [wrap_succ (by omega)]
    refine (ih (i + 1) (by omega)).mono ?_
    rintro _ rfl
    have : EOk n es[i] := by unfold EOk; omega
    simp only [forall_drop hlt, this, true_and]
   ·have h1' : ¬ (es[i].f0 + 1 ≤ es[i].f1 ∧ es[i].f1 ≤ n - 1) := by simpa using h1
    have : ¬ EOk n es[i] := by unfold EOk; omega
    simp only [forall_drop hlt, this, false_and, decide_false]
  ·have h0' : ¬ (0 ≤ es[i].f0 ∧ es[i].f0 ≤ n - 1) := by simpa using h0
   have : ¬ EOk n es[i] := by unfold EOk; omega
   simp only [forall_drop hlt, this, false_and, decide_false]
theorem specEdges (n : Int) (es : List E) : Ep (fun k => spec_EdgesOk.f k n es) (· = decide (EsOk n es)) := by
 simp only [spec_EdgesOk.f]
 refine Ep.bind0 (l01In_eq _ _ _) ?_
 refine Ep.ite (fun h0 => ?_) (fun h0 => ?_)
 ·have h0' : 1 ≤ n ∧ n ≤ 6 := by simpa using h0
  refine Ep.up ?_
  simp only [spec_EdgesOk.j0]
  refine Ep.ite (fun h1 => Ep.now ?_) (fun h1 => ?_)
  ·have : ¬ EsOk n es := by
    have : (es.length : Int) > 12 := by simpa using h1
    unfold EsOk
    omega
   simp [this]
  ·have hl : es.length ≤ 12 := by
    have : ¬ (es.length : Int) > 12 := by simpa using h1
    omega
   refine (specEdges_l0 n h0' es hl es.length 0 (by omega)).mono ?_
   rintro _ rfl
   rw [List.drop_zero]
   unfold EsOk
   simp only [h0'.1, h0'.2, hl, true_and]
 ·have h0' : ¬ (1 ≤ n ∧ n ≤ 6) := by simpa using h0
  refine Ep.up ?_
  simp only [spec_EdgesOk.j0]
  refine Ep.pos (by simp) (Ep.now ?_)
  have : ¬ EsOk n es := by
   unfold EsOk
   omega
  simp [this]
theorem specHas_l0 (x : Int) (l : List Int) (hl : l.length ≤ 1048576) : ∀ (d i : Nat), i + d = l.length → Ep (fun k => spec_l02Has.l0 k x l (l.length : Int) (i : Int)) (· = decide (x ∈ l.drop i)) := by
 intro d
 induction d with
 | zero =>
  intro i hi
  refine Ep.up ?_
  simp only [spec_l02Has.l0]
  refine Ep.neg (by omega) (Ep.now ?_)
  rw [List.drop_of_length_le (by omega)]
  simp
 | succ d ih =>
  intro i hi
  have hlt : i < l.length := by omega
  refine Ep.up ?_
  simp only [spec_l02Has.l0]
  refine Ep.pos (by omega) (Ep.pos (by omega) (Ep.pos (by omega) ?_))
  rw [rd_get hlt, wrap_succ (by omega), List.drop_eq_getElem_cons hlt]
  refine Ep.ite (fun h => Ep.now ?_) (fun h => ?_)
  ·simp only [List.mem_cons, h, true_or, decide_true]
  ·refine (ih (i + 1) (by omega)).mono ?_
   rintro _ rfl
   have : ¬ x = l[i] := fun e => h e.symm
   simp only [List.mem_cons, this, false_or]
theorem specHas (l : List Int) (x : Int) (hl : l.length ≤ 1048576) : Ep (fun k => spec_l02Has.f k l x) (· = decide (x ∈ l)) := by
 have := specHas_l0 x l hl l.length 0 (by omega)
 simp only [spec_l02Has.f]
 exact this
structure BInv (es : List E) (n : Nat) (q : List Int) (a i : Nat) (u : Int) : Prop where
 ok : QOk es n q
 zero : (0 : Int) ∈ q
 done : ∀ x ∈ q.take a, ∀ b, Adj es x b → b ∈ q
 at_ : q[a]? = some u
 part : ∀ e ∈ es.take i, (e.f0 = u → e.f1 ∈ q) ∧ (e.f1 = u → e.f0 ∈ q)
theorem BInv.lt {es : List E} {n : Nat} {q : List Int} {a i : Nat} {u : Int} (h : BInv es n q a i u) : a < q.length := by
 apply Classical.byContradiction
 intro hc
 have := h.at_
 rw [List.getElem?_eq_none (by omega)] at this
 cases this
theorem BInv.len {es : List E} {n : Nat} {q : List Int} {a i : Nat} {u : Int} (h : BInv es n q a i u) : q.length ≤ n := nodup_len n q h.ok.1 (fun v hv => (h.ok.2 v hv).1)
theorem BInv.rd {es : List E} {n : Nat} {q : List Int} {a i : Nat} {u : Int} (h : BInv es n q a i u) : rd q (a : Int) = u := by
 rw [rd_nat, List.getD_eq_getElem?_getD, h.at_]
 rfl
theorem BInv.push {es : List E} {n : Nat} {q : List Int} {a i : Nat} {u v : Int} (hes : ∀ e ∈ es, EOk n e) (h : BInv es n q a i u) (hv : v ∉ q) (hadj : Adj es u v) : BInv es n (q ++ [v]) a i u where
 ok := by
  have hu : u ∈ q := List.mem_of_getElem? h.at_
  exact h.ok.push hv (EsOk.adj hes hadj) ((h.ok.2 u hu).2.tail hadj)
 zero := List.mem_append_left _ h.zero
 done := fun x hx b hb => by
  rw [List.take_append_of_le_length (by have := h.lt; omega)] at hx
  exact List.mem_append_left _ (h.done x hx b hb)
 at_ := by rw [List.getElem?_append_left h.lt]; exact h.at_
 part := fun e he => ⟨fun x => List.mem_append_left _ ((h.part e he).1 x), fun x => List.mem_append_left _ ((h.part e he).2 x)⟩
theorem BInv.next {es : List E} {n : Nat} {q : List Int} {a i : Nat} {u : Int} (h : BInv es n q a i u) (hi : i < es.length) (h0 : es[i].f0 = u → es[i].f1 ∈ q) (h1 : es[i].f1 = u → es[i].f0 ∈ q) : BInv es n q a (i + 1) u where
 ok := h.ok
 zero := h.zero
 done := h.done
 at_ := h.at_
 part := fun e he => by
  rw [List.take_succ_eq_append_getElem hi] at he
  rcases List.mem_append.1 he with he | he
  ·exact h.part e he
  ·rw [List.mem_singleton.1 he]
   exact ⟨h0, h1⟩
theorem specReach_l1 (n : Nat) (hn : n ≤ 6) (es : List E) (hl : es.length ≤ 12) (hes : ∀ e ∈ es, EOk n e) (a : Nat) (u : Int) {Q : List Int → Prop}
  (hk : ∀ q, BInv es n q a es.length u → Ep (fun k => spec_l02Reach.l0 k q ((a + 1 : Nat) : Int) (n : Int) es) Q) :
  ∀ (d i : Nat) (q : List Int), i + d = es.length → BInv es n q a i u → Ep (fun k => spec_l02Reach.l1 k q (a : Int) es (es.length : Int) (i : Int) (n : Int) es) Q := by
 intro d
 induction d with
 | zero =>
  intro i q hi hb
  refine Ep.up ?_
  simp only [spec_l02Reach.l1]
  refine Ep.neg (by omega) ?_
  have := hb.lt
  have := hb.len
  rw [wrap_succ (by omega)]
  have e : i = es.length := by omega
  subst e
  exact hk q hb
 | succ d ih =>
  intro i q hi hb
  have hlt : i < es.length := by omega
  have hal := hb.lt
  have hql := hb.len
  have he := hes es[i] (List.getElem_mem hlt)
  have heok := he
  unfold EOk at he
  have hadj : Adj es es[i].f0 es[i].f1 := ⟨es[i], List.getElem_mem hlt, .inl ⟨rfl, rfl⟩⟩
  -- the second test, behind the first
  have second : ∀ q', BInv es n q' a i u → (es[i].f0 = u → es[i].f1 ∈ q') → Ep (fun k => if (0 : Int) ≤ (a : Int) then (if (a : Int) < (q'.length : Int) then (if es[i].f1 = rd q' (a : Int) then ((spec_l02Has.f k q' es[i].f0).bind fun t => (if t = true then (spec_l02Reach.l1 k q' (a : Int) es (es.length : Int) (wrap64 ((i : Int) + 1)) (n : Int) es) else (if q'.length < 17592186044416 then (spec_l02Reach.l1 k (q' ++ [es[i].f0]) (a : Int) es (es.length : Int) (wrap64 ((i : Int) + 1)) (n : Int) es) else (none)))) else (spec_l02Reach.l1 k q' (a : Int) es (es.length : Int) (wrap64 ((i : Int) + 1)) (n : Int) es)) else (none)) else (none)) Q := by
   intro q' hb' h0
   have hal' := hb'.lt
   have hql' := hb'.len
   refine Ep.pos (by omega) (Ep.pos (by omega) ?_)
   rw [hb'.rd, wrap_succ (by omega)]
   refine Ep.ite (fun h1 => ?_) (fun h1 => ih (i + 1) q' (by omega) (hb'.next hlt h0 (fun x => absurd x h1)))
   refine Ep.bind (specHas q' _ (by omega)) ?_
   rintro _ rfl
   refine Ep.ite (fun h2 => ih (i + 1) q' (by omega) (hb'.next hlt h0 (fun _ => by simpa using h2))) (fun h2 => Ep.pos (by omega) ?_)
   have h2' : es[i].f0 ∉ q' := by simpa using h2
   have hb2 := hb'.push hes h2' (by rw [← h1]; exact hadj.symm)
   exact ih (i + 1) _ (by omega) (hb2.next hlt (fun x => List.mem_append_left _ (h0 x)) (fun _ => by simp))
  refine Ep.up ?_
  simp only [spec_l02Reach.l1]
  refine Ep.pos (by omega) (Ep.pos (by omega) (Ep.pos (by omega) (Ep.pos (by omega) (Ep.pos (by omega) ?_))))
  rw [rdE_get hlt, hb.rd]
  refine Ep.ite (fun h0 => ?_) (fun h0 => ?_)
  ·refine Ep.bind (specHas q _ (by omega)) ?_
   rintro _ rfl
   refine Ep.up ?_
   simp only [spec_l02Reach.j2]
   refine Ep.ite (fun h1 => Ep.pos (by omega) ?_) (fun h1 => second q hb (fun _ => by simpa using h1))
   have h1' : es[i].f1 ∉ q := by simpa using h1
   refine Ep.bind0 rfl ?_
   exact second _ (hb.push hes h1' (by rw [← h0]; exact hadj)) (fun _ => by simp)
  ·refine Ep.up ?_
   simp only [spec_l02Reach.j2]
   exact Ep.neg (by simp) (second q hb (fun x => absurd x h0))
theorem specReach_l0 (n : Nat) (hn : 1 ≤ n ∧ n ≤ 6) (es : List E) (hl : es.length ≤ 12) (hes : ∀ e ∈ es, EOk n e) : ∀ (d a : Nat) (q : List Int), a + d = 7 → a ≤ q.length → QOk es n q → (0 : Int) ∈ q → (∀ x ∈ q.take a, ∀ b, Adj es x b → b ∈ q) →
  Ep (fun k => spec_l02Reach.l0 k q (a : Int) (n : Int) es) (fun r => (r.length = n ↔ Joined n es) ∧ r.length ≤ 6) := by
 intro d
 induction d with
 | zero =>
  intro a q ha hq hok _ _
  have := nodup_len n q hok.1 (fun v hv => (hok.2 v hv).1)
  omega
 | succ d ih =>
  intro a q ha hq hok h0 hdone
  have hlen := nodup_len n q hok.1 (fun v hv => (hok.2 v hv).1)
  refine Ep.up ?_
  simp only [spec_l02Reach.l0]
  refine Ep.ite (fun hlt => ?_) (fun hge => Ep.now ?_)
  ·have hlt' : a < q.length := by omega
   have hb : BInv es n q a 0 q[a] := ⟨hok, h0, hdone, List.getElem?_eq_getElem hlt', fun e he => by simp at he⟩
   refine specReach_l1 n hn.2 es hl hes a q[a] ?_ es.length 0 q (by omega) hb
   intro q' hb'
   refine ih (a + 1) q' (by omega) (by have := hb'.lt; omega) hb'.ok hb'.zero ?_
   intro x hx b hadj
   have hal := hb'.lt
   rw [List.take_succ_eq_append_getElem hal] at hx
   rcases List.mem_append.1 hx with hx | hx
   ·exact hb'.done x hx b hadj
   ·have hx' : x = q'[a] := List.mem_singleton.1 hx
    have hu : q'[a] = q[a] := by
     have := hb'.at_
     rw [List.getElem?_eq_getElem hal] at this
     exact Option.some.inj this
    obtain ⟨e, he, h⟩ := hadj
    have hp := hb'.part e (by rw [List.take_of_length_le (Nat.le_refl _)]; exact he)
    rcases h with ⟨x0, x1⟩ | ⟨x0, x1⟩
    ·rw [← x1]
     exact hp.1 (by rw [x0, hx', hu])
    ·rw [← x0]
     exact hp.2 (by rw [x1, hx', hu])
  ·have hfull : q.take a = q := List.take_of_length_le (by omega)
   rw [hfull] at hdone
   exact ⟨queue_joined hn.1 hok h0 hdone, by omega⟩
theorem specReach (n : Nat) (hn : 1 ≤ n ∧ n ≤ 6) (es : List E) (hl : es.length ≤ 12) (hes : ∀ e ∈ es, EOk n e) : Ep (fun k => spec_l02Reach.f k (n : Int) es) (fun r => (r.length = n ↔ Joined n es) ∧ r.length ≤ 6) := by
 simp only [spec_l02Reach.f]
 refine specReach_l0 n hn es hl hes 7 0 [0] rfl (by simp) ⟨by simp, fun v hv => ?_⟩ (by simp) (fun x hx => by simp at hx)
 rw [List.mem_singleton.1 hv]
 exact ⟨⟨Int.le_refl _, by omega⟩, .refl⟩
def SortedTo (es : List E) (i : Nat) : Prop := ∀ j, (h : j + 1 < es.length) → j + 1 < i → leE es[j] es[j + 1]
theorem specGraph_l0 (n : Nat) (es : List E) (hes : EsOk n es) : ∀ (d i : Nat), i + d = es.length → SortedTo es i → Ep (fun k => spec_GraphOk.l0 k es (es.length : Int) (i : Int) (n : Int) es) (· = gOk n es) := by
 have hes' := hes
 obtain ⟨hn1, hn6, hl, hok⟩ := hes
 intro d
 induction d with
 | zero =>
  intro i hi hs
  refine Ep.up ?_
  simp only [spec_GraphOk.l0]
  refine Ep.neg (by omega) ?_
  refine Ep.bind (specReach n (by omega) es hl hok) ?_
  rintro r ⟨hr, _⟩
  refine Ep.now ?_
  have hsorted : Sorted es := fun j h => hs j h (by omega)
  have hiff : GOk n es ↔ Joined n es := ⟨fun h => h.2.2, fun h => ⟨hes', hsorted, h⟩⟩
  by_cases hj : Joined n es
  ·have : gOk n es = true := gOk_iff.2 (hiff.2 hj)
   rw [this, hr.2 hj]
   simp
  ·have : gOk n es = false := by
    cases hg : gOk n es with
    | false => rfl
    | true => exact absurd (hiff.1 (gOk_iff.1 hg)) hj
   rw [this]
   have hne : r.length ≠ n := fun e => hj (hr.1 e)
   simp
   omega
 | succ d ih =>
  intro i hi hs
  have hlt : i < es.length := by omega
  have hbad : ∀ j, i = j + 1 → (hj : j < es.length) → ¬ leE es[j] es[i] → gOk n es = false := by
   intro j hij hj hx
   subst hij
   cases hg : gOk n es with
   | false => rfl
   | true => exact absurd ((gOk_iff.1 hg).2.1 j hlt) hx
  have hgood : (∀ j, i = j + 1 → (hj : j < es.length) → leE es[j] es[i]) → Ep (fun k => spec_GraphOk.l0 k es (es.length : Int) (wrap64 ((i : Int) + 1)) (n : Int) es) (· = gOk n es) := by
   intro hx
   rw [wrap_succ (by omega)]
   refine ih (i + 1) (by omega) ?_
   intro j h hji
   by_cases e : j + 1 < i
   ·exact hs j h e
   ·have e' : i = j + 1 := by omega
    have := hx j e' (by omega)
    subst e'
    exact this
  refine Ep.up ?_
  simp only [spec_GraphOk.l0]
  refine Ep.pos (by omega) (Ep.pos (by omega) (Ep.pos (by omega) ?_))
  refine Ep.ite (fun hpos => ?_) (fun hz => hgood (fun j hij _ => by omega))
  obtain ⟨j, rfl⟩ : ∃ j, i = j + 1 := ⟨i - 1, by omega⟩
  have hw : wrap64 (((j + 1 : Nat) : Int) - 1) = (j : Int) := by rw [wrap_id (by omega) (by omega)]; omega
  rw [hw, rdE_get hlt, rdE_get (show j < es.length by omega)]
  refine Ep.pos (by omega) (Ep.pos (by omega) ?_)
  refine Ep.ite (fun h0 => Ep.now ?_) (fun h0 => ?_)
  ·exact (hbad j rfl (by omega) (by unfold leE; omega)).symm
  ·refine Ep.ite (fun h1 => ?_) (fun h1 => hgood (fun j' hij _ => ?_))
   ·refine Ep.ite (fun h2 => Ep.now ?_) (fun h2 => hgood (fun j' hij _ => ?_))
    ·exact (hbad j rfl (by omega) (by unfold leE; omega)).symm
    ·obtain rfl : j' = j := by omega
     unfold leE
     omega
   ·obtain rfl : j' = j := by omega
    unfold leE
    omega
theorem specGraph (n : Int) (es : List E) : Ep (fun k => spec_GraphOk.f k n es) (· = gOk n es) := by
 simp only [spec_GraphOk.f]
 refine Ep.bind (specEdges n es) ?_
 rintro _ rfl
 refine Ep.ite (fun h => ?_) (fun h => Ep.now ?_)
 ·have h' : EsOk n es := by simpa using h
  have h1 := h'.1
  obtain ⟨m, rfl⟩ := Int.eq_ofNat_of_zero_le (a := n) (by omega)
  exact specGraph_l0 m es h' es.length 0 (by omega) (fun j h hj => by omega)
 ·have h' : ¬ EsOk n es := by simpa using h
  cases hg : gOk n es with
  | false => rfl
  | true => exact absurd (gOk_iff.1 hg).1 h'
end Go.Proofs.Ytkcbinohpdhbgaa.Cf
end

