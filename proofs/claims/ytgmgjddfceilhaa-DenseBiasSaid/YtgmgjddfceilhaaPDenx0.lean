-- printed by wip/tools/xp.py of this project (not trusted: Lean checks it)
import Derived.Test.YtgmgjddfceilhaaProg
import Derived.Below
import Derived.Deep.Draws
import Derived.Deep.AppendLies
import Derived.Maps.AppendAt
import Derived.OwnWalk
import Derived.Laws.BytesArg
import Derived.Laws.MakeOwn
import Derived.Laws.OwnMore
import Derived.Deep.OwnRows
import Derived.Tactics
import Derived.Lib.ConvBytes
import Derived.Laws.Slices
import Derived.WalkKit
import Derived.KernelRfl
import Derived.RowKit3
import Derived.Deep.LoopGhost
import Derived.Deep.QuietTactic
import Derived.BigQuiet
import Derived.WideLaws
import Derived.Deep.DeepCutAuto
import Derived.Deep.CutBlock
import Derived.Deep.RegionHeld3
import Derived.Laws.Rows
import Derived.Lib.AppendStr
import Derived.ArgAppend
import Derived.Laws.IdiomCopy
import Derived.OrdersHeld
import Derived.Laws.BitsLemmas
import Derived.RowKit
import Derived.Laws.CopyOwn
import Derived.Deep.RegionLaw
import Derived.Shelf.Bits.Mul64
import Derived.Test.YtgmgjddfceilhaaVWWords
import Derived.Test.YtgmgjddfceilhaaVWLast
import Derived.Test.YtgmgjddfceilhaaVWTab
import Derived.Test.YtgmgjddfceilhaaVWQPut
import Derived.Test.YtgmgjddfceilhaaVWApart
import Derived.Test.YtgmgjddfceilhaaVWArr
import Derived.Test.YtgmgjddfceilhaaVWZeros
import Derived.Test.YtgmgjddfceilhaaVWFoot
import Derived.Test.YtgmgjddfceilhaaVWKept
import Derived.Test.YtgmgjddfceilhaaVWShare
import Derived.Test.YtgmgjddfceilhaaVWN
import Derived.Test.YtgmgjddfceilhaaVWRepsOne
import Derived.Test.YtgmgjddfceilhaaVWGuard
import Derived.Test.YtgmgjddfceilhaaVWNEv
import Derived.Test.YtgmgjddfceilhaaVWMore
import Derived.Test.YtgmgjddfceilhaaXWords
import Derived.Test.YtgmgjddfceilhaaXOpen
namespace Go.Proofs.Ytgmgjddfceilhaa.PDen
open Go.RowKit Go.Proofs.YtgmgjddfceilhaaW.PrintWords Go.Proofs.YtgmgjddfceilhaaW.PrintLast Go.Proofs.YtgmgjddfceilhaaW.PrintMore Go.Proofs.Ytgmgjddfceilhaa.XW
attribute [local go_sem] max2_int min2_int max_two min_two max_three min_three max_four min_four max_five min_five   -- for this text's walks alone
set_option linter.unusedVariables false
set_option linter.unusedSimpArgs false



def errW : Option Int → Value
  | none => .nilIface
  | some c => .iface 0 (.int .i64 c)
theorem errW_none : errW none = .nilIface := rfl
theorem errW_some (c : Int) : errW (some c) = .iface 0 (.int .i64 c) := rfl

theorem info2 : (Try.prog.info? 2).map (fun i => (i.zero, i.size, i.bytes)) = some (some (.int .i64 0), 1, 8) := by kernel_rfl
theorem info3 : (Try.prog.info? 3).map (fun i => (i.zero, i.size, i.bytes)) = some (some (.int .i64 0), 1, 8) := by kernel_rfl
theorem info47 : (Try.prog.info? 47).map (fun i => (i.zero, i.size, i.bytes)) = some (some (.int .i64 0), 1, 8) := by kernel_rfl
-- the values' own types
def rd_L1 (xs : List (List Int)) (i : Int) : (List Int) := xs.getD i.toNat ([] : List Int)
theorem at_L1 {w : World} {A : Option Addr} {n : Nat} {xs : List (List Int)} (h : Kd.C (Kd.slice 3 (Kd.int .i64)) w A n xs) (i : Int) (h0 : 0 ≤ i) (h1 : i < n) : ∃ ad A0 c0, A = some ad ∧ w.cell? (ad.add i.toNat) = some (.slice A0 (rd_L1 xs i).length c0) ∧ (rd_L1 xs i).length ≤ c0 ∧ (Kd.int .i64).C w A0 (rd_L1 xs i).length (rd_L1 xs i) := by
  obtain ⟨ad, c, e, _, hK, hc0⟩ := Kd.C_get h ([] : List Int) i h0 h1
  have hc : ∀ j u, c[j]? = some u → w.cell? (ad.add (i.toNat * 1 + j)) = some u := hc0
  obtain ⟨A0, c0, rfl, l0, g0⟩ := hK
  exact ⟨ad, A0, c0, e, by have hq := hc 0 _ rfl; rwa [Nat.mul_one, Nat.add_zero] at hq, l0, g0⟩

def rd_L2 (xs : List (List Int)) (i : Int) : (List Int) := xs.getD i.toNat ([] : List Int)
theorem at_L2 {w : World} {A : Option Addr} {n : Nat} {xs : List (List Int)} (h : Kd.C (Kd.slice 47 (Kd.int .i64)) w A n xs) (i : Int) (h0 : 0 ≤ i) (h1 : i < n) : ∃ ad A0 c0, A = some ad ∧ w.cell? (ad.add i.toNat) = some (.slice A0 (rd_L2 xs i).length c0) ∧ (rd_L2 xs i).length ≤ c0 ∧ (Kd.int .i64).C w A0 (rd_L2 xs i).length (rd_L2 xs i) := by
  obtain ⟨ad, c, e, _, hK, hc0⟩ := Kd.C_get h ([] : List Int) i h0 h1
  have hc : ∀ j u, c[j]? = some u → w.cell? (ad.add (i.toNat * 1 + j)) = some u := hc0
  obtain ⟨A0, c0, rfl, l0, g0⟩ := hK
  exact ⟨ad, A0, c0, e, by have hq := hc 0 _ rfl; rwa [Nat.mul_one, Nat.add_zero] at hq, l0, g0⟩

/-! #### struct type 26 -/
structure S26 where
  f0 : (List Int)
  f1 : (List Int)
def z26 : S26 := ⟨([] : List Int), ([] : List Int)⟩
def k26 : Kd S26 := Kd.iso (Kd.pair (Kd.slice 3 (Kd.int .i64)) (Kd.slice 47 (Kd.int .i64))) (fun x : S26 => (x.f0, x.f1))
theorem k26_open {w : World} {x : S26} {cs : List Value} (h : k26.K w x cs) : ∃ A0 c0 A1 c1, cs = [.slice A0 x.f0.length c0, .slice A1 x.f1.length c1] ∧ x.f0.length ≤ c0 ∧ (Kd.int .i64).C w A0 x.f0.length x.f0 ∧ x.f1.length ≤ c1 ∧ (Kd.int .i64).C w A1 x.f1.length x.f1 := by
  obtain ⟨_, _, rfl, ⟨A0, c0, rfl, l0, g0⟩, ⟨A1, c1, rfl, l1, g1⟩⟩ := h
  exact ⟨A0, c0, A1, c1, rfl, l0, g0, l1, g1⟩
theorem k26_openM {w : World} {base : Nat} {ok : Nat → Prop} {x : S26} {cs : List Value} (h : k26.M w base ok x cs) : ∃ v0 v1, cs = [v0, v1] ∧ (Kd.int .i64).R 3 w base ok v0 x.f0 ∧ (Kd.int .i64).R 47 w base ok v1 x.f1 := by
  obtain ⟨_, _, rfl, ⟨v0, rfl, g0⟩, ⟨v1, rfl, g1⟩⟩ := h
  exact ⟨v0, v1, rfl, g0, g1⟩
theorem k26_mk (w : World) (x : S26) {A0 : Option Addr} {c0 : Nat} (l0 : x.f0.length ≤ c0) (g0 : (Kd.int .i64).C w A0 x.f0.length x.f0) {A1 : Option Addr} {c1 : Nat} (l1 : x.f1.length ≤ c1) (g1 : (Kd.int .i64).C w A1 x.f1.length x.f1) : k26.K w x [.slice A0 x.f0.length c0, .slice A1 x.f1.length c1] := ⟨[.slice A0 x.f0.length c0], [.slice A1 x.f1.length c1], rfl, ⟨A0, c0, rfl, l0, g0⟩, ⟨A1, c1, rfl, l1, g1⟩⟩
theorem k26_mkM (w : World) (base : Nat) (ok : Nat → Prop) (x : S26) {v0 : Value} (g0 : (Kd.int .i64).R 3 w base ok v0 x.f0) {v1 : Value} (g1 : (Kd.int .i64).R 47 w base ok v1 x.f1) : k26.M w base ok x [v0, v1] := ⟨[v0], [v1], rfl, ⟨v0, rfl, g0⟩, ⟨v1, rfl, g1⟩⟩
def rd_T26 (xs : List S26) (i : Int) : S26 := xs.getD i.toNat z26
theorem at_T26 {w : World} {A : Option Addr} {n : Nat} {xs : List S26} (h : Kd.C k26 w A n xs) (i : Int) (h0 : 0 ≤ i) (h1 : i < n) : ∃ ad A0 c0 A1 c1, A = some ad ∧ w.cell? (ad.add (i.toNat * 2)) = some (.slice A0 (rd_T26 xs i).f0.length c0) ∧ w.cell? ⟨(ad.add (i.toNat * 2)).block, (ad.add (i.toNat * 2)).off + 1, none⟩ = some (.slice A1 (rd_T26 xs i).f1.length c1) ∧ (rd_T26 xs i).f0.length ≤ c0 ∧ (Kd.int .i64).C w A0 (rd_T26 xs i).f0.length (rd_T26 xs i).f0 ∧ (rd_T26 xs i).f1.length ≤ c1 ∧ (Kd.int .i64).C w A1 (rd_T26 xs i).f1.length (rd_T26 xs i).f1 := by
  obtain ⟨ad, c, e, _, hK, hc0⟩ := Kd.C_get h z26 i h0 h1
  have hc : ∀ j u, c[j]? = some u → w.cell? (ad.add (i.toNat * 2 + j)) = some u := hc0
  obtain ⟨A0, c0, A1, c1, rfl, l0, g0, l1, g1⟩ := k26_open hK
  exact ⟨ad, A0, c0, A1, c1, e, hc 0 _ rfl, by rw [← add_field _ _ 1 (by omega)]; exact hc 1 _ rfl, l0, g0, l1, g1⟩

/-! #### struct type 28 -/
structure S28 where
  f0 : S26
  f1 : S26
  f2 : S26
  f3 : S26
def z28 : S28 := ⟨z26, z26, z26, z26⟩
def k28 : Kd S28 := Kd.iso (Kd.pair k26 (Kd.pair k26 (Kd.pair k26 k26))) (fun x : S28 => (x.f0, x.f1, x.f2, x.f3))
theorem k28_open {w : World} {x : S28} {cs : List Value} (h : k28.K w x cs) : ∃ A0 c0 A1 c1 A2 c2 A3 c3 A4 c4 A5 c5 A6 c6 A7 c7, cs = [.slice A0 x.f0.f0.length c0, .slice A1 x.f0.f1.length c1, .slice A2 x.f1.f0.length c2, .slice A3 x.f1.f1.length c3, .slice A4 x.f2.f0.length c4, .slice A5 x.f2.f1.length c5, .slice A6 x.f3.f0.length c6, .slice A7 x.f3.f1.length c7] ∧ x.f0.f0.length ≤ c0 ∧ (Kd.int .i64).C w A0 x.f0.f0.length x.f0.f0 ∧ x.f0.f1.length ≤ c1 ∧ (Kd.int .i64).C w A1 x.f0.f1.length x.f0.f1 ∧ x.f1.f0.length ≤ c2 ∧ (Kd.int .i64).C w A2 x.f1.f0.length x.f1.f0 ∧ x.f1.f1.length ≤ c3 ∧ (Kd.int .i64).C w A3 x.f1.f1.length x.f1.f1 ∧ x.f2.f0.length ≤ c4 ∧ (Kd.int .i64).C w A4 x.f2.f0.length x.f2.f0 ∧ x.f2.f1.length ≤ c5 ∧ (Kd.int .i64).C w A5 x.f2.f1.length x.f2.f1 ∧ x.f3.f0.length ≤ c6 ∧ (Kd.int .i64).C w A6 x.f3.f0.length x.f3.f0 ∧ x.f3.f1.length ≤ c7 ∧ (Kd.int .i64).C w A7 x.f3.f1.length x.f3.f1 := by
  obtain ⟨_, _, rfl, s0, ⟨_, _, rfl, s2, ⟨_, _, rfl, s4, s6⟩⟩⟩ := h
  obtain ⟨A0, c0, A1, c1, rfl, l0, g0, l1, g1⟩ := k26_open s0
  obtain ⟨A2, c2, A3, c3, rfl, l2, g2, l3, g3⟩ := k26_open s2
  obtain ⟨A4, c4, A5, c5, rfl, l4, g4, l5, g5⟩ := k26_open s4
  obtain ⟨A6, c6, A7, c7, rfl, l6, g6, l7, g7⟩ := k26_open s6
  exact ⟨A0, c0, A1, c1, A2, c2, A3, c3, A4, c4, A5, c5, A6, c6, A7, c7, rfl, l0, g0, l1, g1, l2, g2, l3, g3, l4, g4, l5, g5, l6, g6, l7, g7⟩
theorem k28_openM {w : World} {base : Nat} {ok : Nat → Prop} {x : S28} {cs : List Value} (h : k28.M w base ok x cs) : ∃ v0 v1 v2 v3 v4 v5 v6 v7, cs = [v0, v1, v2, v3, v4, v5, v6, v7] ∧ (Kd.int .i64).R 3 w base ok v0 x.f0.f0 ∧ (Kd.int .i64).R 47 w base ok v1 x.f0.f1 ∧ (Kd.int .i64).R 3 w base ok v2 x.f1.f0 ∧ (Kd.int .i64).R 47 w base ok v3 x.f1.f1 ∧ (Kd.int .i64).R 3 w base ok v4 x.f2.f0 ∧ (Kd.int .i64).R 47 w base ok v5 x.f2.f1 ∧ (Kd.int .i64).R 3 w base ok v6 x.f3.f0 ∧ (Kd.int .i64).R 47 w base ok v7 x.f3.f1 := by
  obtain ⟨_, _, rfl, s0, ⟨_, _, rfl, s2, ⟨_, _, rfl, s4, s6⟩⟩⟩ := h
  obtain ⟨v0, v1, rfl, g0, g1⟩ := k26_openM s0
  obtain ⟨v2, v3, rfl, g2, g3⟩ := k26_openM s2
  obtain ⟨v4, v5, rfl, g4, g5⟩ := k26_openM s4
  obtain ⟨v6, v7, rfl, g6, g7⟩ := k26_openM s6
  exact ⟨v0, v1, v2, v3, v4, v5, v6, v7, rfl, g0, g1, g2, g3, g4, g5, g6, g7⟩
theorem k28_mk (w : World) (x : S28) {A0 : Option Addr} {c0 : Nat} (l0 : x.f0.f0.length ≤ c0) (g0 : (Kd.int .i64).C w A0 x.f0.f0.length x.f0.f0) {A1 : Option Addr} {c1 : Nat} (l1 : x.f0.f1.length ≤ c1) (g1 : (Kd.int .i64).C w A1 x.f0.f1.length x.f0.f1) {A2 : Option Addr} {c2 : Nat} (l2 : x.f1.f0.length ≤ c2) (g2 : (Kd.int .i64).C w A2 x.f1.f0.length x.f1.f0) {A3 : Option Addr} {c3 : Nat} (l3 : x.f1.f1.length ≤ c3) (g3 : (Kd.int .i64).C w A3 x.f1.f1.length x.f1.f1) {A4 : Option Addr} {c4 : Nat} (l4 : x.f2.f0.length ≤ c4) (g4 : (Kd.int .i64).C w A4 x.f2.f0.length x.f2.f0) {A5 : Option Addr} {c5 : Nat} (l5 : x.f2.f1.length ≤ c5) (g5 : (Kd.int .i64).C w A5 x.f2.f1.length x.f2.f1) {A6 : Option Addr} {c6 : Nat} (l6 : x.f3.f0.length ≤ c6) (g6 : (Kd.int .i64).C w A6 x.f3.f0.length x.f3.f0) {A7 : Option Addr} {c7 : Nat} (l7 : x.f3.f1.length ≤ c7) (g7 : (Kd.int .i64).C w A7 x.f3.f1.length x.f3.f1) : k28.K w x [.slice A0 x.f0.f0.length c0, .slice A1 x.f0.f1.length c1, .slice A2 x.f1.f0.length c2, .slice A3 x.f1.f1.length c3, .slice A4 x.f2.f0.length c4, .slice A5 x.f2.f1.length c5, .slice A6 x.f3.f0.length c6, .slice A7 x.f3.f1.length c7] := ⟨[.slice A0 x.f0.f0.length c0, .slice A1 x.f0.f1.length c1], [.slice A2 x.f1.f0.length c2, .slice A3 x.f1.f1.length c3, .slice A4 x.f2.f0.length c4, .slice A5 x.f2.f1.length c5, .slice A6 x.f3.f0.length c6, .slice A7 x.f3.f1.length c7], rfl, (k26_mk w x.f0 l0 g0 l1 g1), ⟨[.slice A2 x.f1.f0.length c2, .slice A3 x.f1.f1.length c3], [.slice A4 x.f2.f0.length c4, .slice A5 x.f2.f1.length c5, .slice A6 x.f3.f0.length c6, .slice A7 x.f3.f1.length c7], rfl, (k26_mk w x.f1 l2 g2 l3 g3), ⟨[.slice A4 x.f2.f0.length c4, .slice A5 x.f2.f1.length c5], [.slice A6 x.f3.f0.length c6, .slice A7 x.f3.f1.length c7], rfl, (k26_mk w x.f2 l4 g4 l5 g5), (k26_mk w x.f3 l6 g6 l7 g7)⟩⟩⟩
theorem k28_mkM (w : World) (base : Nat) (ok : Nat → Prop) (x : S28) {v0 : Value} (g0 : (Kd.int .i64).R 3 w base ok v0 x.f0.f0) {v1 : Value} (g1 : (Kd.int .i64).R 47 w base ok v1 x.f0.f1) {v2 : Value} (g2 : (Kd.int .i64).R 3 w base ok v2 x.f1.f0) {v3 : Value} (g3 : (Kd.int .i64).R 47 w base ok v3 x.f1.f1) {v4 : Value} (g4 : (Kd.int .i64).R 3 w base ok v4 x.f2.f0) {v5 : Value} (g5 : (Kd.int .i64).R 47 w base ok v5 x.f2.f1) {v6 : Value} (g6 : (Kd.int .i64).R 3 w base ok v6 x.f3.f0) {v7 : Value} (g7 : (Kd.int .i64).R 47 w base ok v7 x.f3.f1) : k28.M w base ok x [v0, v1, v2, v3, v4, v5, v6, v7] := ⟨[v0, v1], [v2, v3, v4, v5, v6, v7], rfl, (k26_mkM w base ok x.f0 g0 g1), ⟨[v2, v3], [v4, v5, v6, v7], rfl, (k26_mkM w base ok x.f1 g2 g3), ⟨[v4, v5], [v6, v7], rfl, (k26_mkM w base ok x.f2 g4 g5), (k26_mkM w base ok x.f3 g6 g7)⟩⟩⟩
def rd_T28 (xs : List S28) (i : Int) : S28 := xs.getD i.toNat z28
theorem at_T28 {w : World} {A : Option Addr} {n : Nat} {xs : List S28} (h : Kd.C k28 w A n xs) (i : Int) (h0 : 0 ≤ i) (h1 : i < n) : ∃ ad A0 c0 A1 c1 A2 c2 A3 c3 A4 c4 A5 c5 A6 c6 A7 c7, A = some ad ∧ w.cell? (ad.add (i.toNat * 8)) = some (.slice A0 (rd_T28 xs i).f0.f0.length c0) ∧ w.cell? ⟨(ad.add (i.toNat * 8)).block, (ad.add (i.toNat * 8)).off + 1, none⟩ = some (.slice A1 (rd_T28 xs i).f0.f1.length c1) ∧ w.cell? ⟨(ad.add (i.toNat * 8)).block, (ad.add (i.toNat * 8)).off + 2, none⟩ = some (.slice A2 (rd_T28 xs i).f1.f0.length c2) ∧ w.cell? ⟨(ad.add (i.toNat * 8)).block, (ad.add (i.toNat * 8)).off + 3, none⟩ = some (.slice A3 (rd_T28 xs i).f1.f1.length c3) ∧ w.cell? ⟨(ad.add (i.toNat * 8)).block, (ad.add (i.toNat * 8)).off + 4, none⟩ = some (.slice A4 (rd_T28 xs i).f2.f0.length c4) ∧ w.cell? ⟨(ad.add (i.toNat * 8)).block, (ad.add (i.toNat * 8)).off + 5, none⟩ = some (.slice A5 (rd_T28 xs i).f2.f1.length c5) ∧ w.cell? ⟨(ad.add (i.toNat * 8)).block, (ad.add (i.toNat * 8)).off + 6, none⟩ = some (.slice A6 (rd_T28 xs i).f3.f0.length c6) ∧ w.cell? ⟨(ad.add (i.toNat * 8)).block, (ad.add (i.toNat * 8)).off + 7, none⟩ = some (.slice A7 (rd_T28 xs i).f3.f1.length c7) ∧ (rd_T28 xs i).f0.f0.length ≤ c0 ∧ (Kd.int .i64).C w A0 (rd_T28 xs i).f0.f0.length (rd_T28 xs i).f0.f0 ∧ (rd_T28 xs i).f0.f1.length ≤ c1 ∧ (Kd.int .i64).C w A1 (rd_T28 xs i).f0.f1.length (rd_T28 xs i).f0.f1 ∧ (rd_T28 xs i).f1.f0.length ≤ c2 ∧ (Kd.int .i64).C w A2 (rd_T28 xs i).f1.f0.length (rd_T28 xs i).f1.f0 ∧ (rd_T28 xs i).f1.f1.length ≤ c3 ∧ (Kd.int .i64).C w A3 (rd_T28 xs i).f1.f1.length (rd_T28 xs i).f1.f1 ∧ (rd_T28 xs i).f2.f0.length ≤ c4 ∧ (Kd.int .i64).C w A4 (rd_T28 xs i).f2.f0.length (rd_T28 xs i).f2.f0 ∧ (rd_T28 xs i).f2.f1.length ≤ c5 ∧ (Kd.int .i64).C w A5 (rd_T28 xs i).f2.f1.length (rd_T28 xs i).f2.f1 ∧ (rd_T28 xs i).f3.f0.length ≤ c6 ∧ (Kd.int .i64).C w A6 (rd_T28 xs i).f3.f0.length (rd_T28 xs i).f3.f0 ∧ (rd_T28 xs i).f3.f1.length ≤ c7 ∧ (Kd.int .i64).C w A7 (rd_T28 xs i).f3.f1.length (rd_T28 xs i).f3.f1 := by
  obtain ⟨ad, c, e, _, hK, hc0⟩ := Kd.C_get h z28 i h0 h1
  have hc : ∀ j u, c[j]? = some u → w.cell? (ad.add (i.toNat * 8 + j)) = some u := hc0
  obtain ⟨A0, c0, A1, c1, A2, c2, A3, c3, A4, c4, A5, c5, A6, c6, A7, c7, rfl, l0, g0, l1, g1, l2, g2, l3, g3, l4, g4, l5, g5, l6, g6, l7, g7⟩ := k28_open hK
  exact ⟨ad, A0, c0, A1, c1, A2, c2, A3, c3, A4, c4, A5, c5, A6, c6, A7, c7, e, hc 0 _ rfl, by rw [← add_field _ _ 1 (by omega)]; exact hc 1 _ rfl, by rw [← add_field _ _ 2 (by omega)]; exact hc 2 _ rfl, by rw [← add_field _ _ 3 (by omega)]; exact hc 3 _ rfl, by rw [← add_field _ _ 4 (by omega)]; exact hc 4 _ rfl, by rw [← add_field _ _ 5 (by omega)]; exact hc 5 _ rfl, by rw [← add_field _ _ 6 (by omega)]; exact hc 6 _ rfl, by rw [← add_field _ _ 7 (by omega)]; exact hc 7 _ rfl, l0, g0, l1, g1, l2, g2, l3, g3, l4, g4, l5, g5, l6, g6, l7, g7⟩

section
open Go.Proofs.Ytgmgjddfceilhaa.XO
def good26 (x : S26) : Prop := (x.f0.length * 8 ≤ 140737488351232 ∧ ∀ e0 ∈ x.f0, (Lit.int .i64 e0).wf = true) ∧ (x.f1.length * 8 ≤ 140737488351232 ∧ ∀ e0 ∈ x.f1, (Lit.int .i64 e0).wf = true)
theorem opens26 : Opens Try.prog k26 26 good26 := opens_struct (ts := [23, 24]) (g := fun p => (⟨p.1, p.2⟩ : S26)) Try.underlying26 (by kernel_rfl) (by kernel_rfl) (by kernel_rfl) (fun _ => rfl) (opensSeq_cons (opens_slice (B := 8) Try.underlying23 (opens_int Try.underlying3) (by kernel_rfl) (by kernel_rfl)) (opensSeq_one (opens_slice (B := 8) Try.underlying24 (opens_int Try.underlying47) (by kernel_rfl) (by kernel_rfl))))
def good28 (x : S28) : Prop := good26 x.f0 ∧ (good26 x.f1 ∧ (good26 x.f2 ∧ good26 x.f3))
theorem opens28 : Opens Try.prog k28 28 good28 := opens_struct (ts := [26, 26, 26, 26]) (g := fun p => (⟨p.1, p.2.1, p.2.2.1, p.2.2.2⟩ : S28)) Try.underlying28 (by kernel_rfl) (by kernel_rfl) (by kernel_rfl) (fun _ => rfl) (opensSeq_cons opens26 (opensSeq_cons opens26 (opensSeq_cons opens26 (opensSeq_one opens26))))
end
end Go.Proofs.Ytgmgjddfceilhaa.PDen
