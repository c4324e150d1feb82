-- printed by wip/tools/xp.py of this project (not trusted: Lean checks it)
import Derived.Test.YtgmgjddfceilhaaPDenx0
import Derived.Test.YtgmgjddfceilhaaPDenAw
import Derived.Test.YtgmgjddfceilhaaPDenx2
import Derived.Test.YtgmgjddfceilhaaPDenx6
import Derived.Test.YtgmgjddfceilhaaPDenx8
import Derived.Test.YtgmgjddfceilhaaPDenx9
namespace Go.Proofs.Ytgmgjddfceilhaa.PDen
open Go.RowKit Go.Proofs.YtgmgjddfceilhaaW.PrintWords Go.Proofs.YtgmgjddfceilhaaW.PrintLast Go.Proofs.YtgmgjddfceilhaaW.PrintMore Go.Proofs.Ytgmgjddfceilhaa.XW
attribute [local go_sem] max2_int min2_int max_two min_two max_three min_three max_four min_four max_five min_five   -- for this text's walks alone
set_option linter.unusedVariables false
set_option linter.unusedSimpArgs false

/-! ### athanorlaw06_DenseRows: function 5 -/
mutual
def athanorlaw06_DenseRows.j0 : Nat → Int → Int → Bool → List Int → List Int → Option (Bool)
 | 0, _, _, _, _, _ => none
 | k + 1, x1, x2, x22, x421000, x421001 => if x22 = true then ((athanorlaw06_awake.f).bind fun t421 => (some t421)) else ((dense_Row.f k x421000 x421001 x1).bind fun t422 => ((dense_Column.f k x421000 x421001 x2).bind fun t425 => ((athanorlaw06_right.f k x421000 x421001).bind fun t428 => (if t428 = true then (athanorlaw06_DenseRows.j1 k x1 x2 t422 t425 ((x421000.length : Int) != 2) x421000 x421001) else (athanorlaw06_DenseRows.j1 k x1 x2 t422 t425 true x421000 x421001)))))
def athanorlaw06_DenseRows.j1 : Nat → Int → Int → List Int → List Int → Bool → List Int → List Int → Option (Bool)
 | 0, _, _, _, _, _, _, _ => none
 | k + 1, x1, x2, x7, x8, x38, x421000, x421001 => if x38 = true then (if (x7.length : Int) = 0 then (if (x8.length : Int) = 0 then ((athanorlaw06_awake.f).bind fun t429 => (some t429)) else (none)) else (none)) else (if x1 < 0 then (athanorlaw06_DenseRows.j2 k x1 x2 x7 x8 true x421000 x421001) else (if 0 < (x421000.length : Int) then (athanorlaw06_DenseRows.j2 k x1 x2 x7 x8 (decide (x1 ≥ (rd x421000 0))) x421000 x421001) else (none)))
def athanorlaw06_DenseRows.j2 : Nat → Int → Int → List Int → List Int → Bool → List Int → List Int → Option (Bool)
 | 0, _, _, _, _, _, _, _ => none
 | k + 1, x1, x2, x7, x8, x59, x421000, x421001 => if x59 = true then (if (x7.length : Int) = 0 then (athanorlaw06_DenseRows.j3 k x1 x2 x7 x8 x421000 x421001) else (none)) else (if 1 < (x421000.length : Int) then (if (x7.length : Int) = (rd x421000 1) then (athanorlaw06_DenseRows.j3 k x1 x2 x7 x8 x421000 x421001) else (none)) else (none))
def athanorlaw06_DenseRows.j3 : Nat → Int → Int → List Int → List Int → List Int → List Int → Option (Bool)
 | 0, _, _, _, _, _, _ => none
 | k + 1, x1, x2, x7, x8, x421000, x421001 => athanorlaw06_DenseRows.l0 k x1 x2 x8 x7 (x7.length : Int) 0 x421000 x421001
def athanorlaw06_DenseRows.l0 : Nat → Int → Int → List Int → List Int → Int → Int → List Int → List Int → Option (Bool)
 | 0, _, _, _, _, _, _, _, _ => none
 | k + 1, x1, x2, x8, x70, x71, x72, x421000, x421001 => if x72 < x71 then (if 0 ≤ x72 then (if x72 < (x70.length : Int) then (if 1 < (x421000.length : Int) then (if 0 ≤ (wrap64 ((wrap64 (x1 * (rd x421000 1))) + x72)) then (if (wrap64 ((wrap64 (x1 * (rd x421000 1))) + x72)) < (x421001.length : Int) then (if (rd x70 x72) = (rd x421001 (wrap64 ((wrap64 (x1 * (rd x421000 1))) + x72))) then (athanorlaw06_DenseRows.l0 k x1 x2 x8 x70 x71 (wrap64 (x72 + 1)) x421000 x421001) else (none)) else (none)) else (none)) else (none)) else (none)) else (none)) else (if x2 < 0 then (athanorlaw06_DenseRows.j5 k x2 x8 true x421000 x421001) else (if 1 < (x421000.length : Int) then (athanorlaw06_DenseRows.j5 k x2 x8 (decide (x2 ≥ (rd x421000 1))) x421000 x421001) else (none)))
def athanorlaw06_DenseRows.j5 : Nat → Int → List Int → Bool → List Int → List Int → Option (Bool)
 | 0, _, _, _, _, _ => none
 | k + 1, x2, x8, x101, x421000, x421001 => if x101 = true then (if (x8.length : Int) = 0 then ((athanorlaw06_awake.f).bind fun t436 => (some t436)) else (none)) else (if 0 < (x421000.length : Int) then (if (x8.length : Int) = (rd x421000 0) then (athanorlaw06_DenseRows.l1 k x2 x8 (x8.length : Int) 0 x421000 x421001) else (none)) else (none))
def athanorlaw06_DenseRows.l1 : Nat → Int → List Int → Int → Int → List Int → List Int → Option (Bool)
 | 0, _, _, _, _, _, _ => none
 | k + 1, x2, x115, x116, x117, x421000, x421001 => if x117 < x116 then (if 0 ≤ x117 then (if x117 < (x115.length : Int) then (if 1 < (x421000.length : Int) then (if 0 ≤ (wrap64 ((wrap64 (x117 * (rd x421000 1))) + x2)) then (if (wrap64 ((wrap64 (x117 * (rd x421000 1))) + x2)) < (x421001.length : Int) then (if (rd x115 x117) = (rd x421001 (wrap64 ((wrap64 (x117 * (rd x421000 1))) + x2))) then (athanorlaw06_DenseRows.l1 k x2 x115 x116 (wrap64 (x117 + 1)) x421000 x421001) else (none)) else (none)) else (none)) else (none)) else (none)) else (none)) else ((athanorlaw06_awake.f).bind fun t441 => (some t441))
end
def athanorlaw06_DenseRows.f (k : Nat) (l0_0 : List Int) (l0_1 : List Int) (a1 : Int) (a2 : Int) : Option (Bool) := if (l0_1.length : Int) > 400 then (athanorlaw06_DenseRows.j0 k a1 a2 true l0_0 l0_1) else (athanorlaw06_DenseRows.j0 k a1 a2 (decide ((l0_0.length : Int) > 9)) l0_0 l0_1)
theorem athanorlaw06_DenseRows.mono_l : ∀ k, (∀ y0 y1 y2 y3 y4, LeO (athanorlaw06_DenseRows.j0 k y0 y1 y2 y3 y4) (athanorlaw06_DenseRows.j0 (k + 1) y0 y1 y2 y3 y4)) ∧ (∀ y0 y1 y2 y3 y4 y5 y6, LeO (athanorlaw06_DenseRows.j1 k y0 y1 y2 y3 y4 y5 y6) (athanorlaw06_DenseRows.j1 (k + 1) y0 y1 y2 y3 y4 y5 y6)) ∧ (∀ y0 y1 y2 y3 y4 y5 y6, LeO (athanorlaw06_DenseRows.j2 k y0 y1 y2 y3 y4 y5 y6) (athanorlaw06_DenseRows.j2 (k + 1) y0 y1 y2 y3 y4 y5 y6)) ∧ (∀ y0 y1 y2 y3 y4 y5, LeO (athanorlaw06_DenseRows.j3 k y0 y1 y2 y3 y4 y5) (athanorlaw06_DenseRows.j3 (k + 1) y0 y1 y2 y3 y4 y5)) ∧ (∀ y0 y1 y2 y3 y4 y5 y6 y7, LeO (athanorlaw06_DenseRows.l0 k y0 y1 y2 y3 y4 y5 y6 y7) (athanorlaw06_DenseRows.l0 (k + 1) y0 y1 y2 y3 y4 y5 y6 y7)) ∧ (∀ y0 y1 y2 y3 y4, LeO (athanorlaw06_DenseRows.j5 k y0 y1 y2 y3 y4) (athanorlaw06_DenseRows.j5 (k + 1) y0 y1 y2 y3 y4)) ∧ (∀ y0 y1 y2 y3 y4 y5, LeO (athanorlaw06_DenseRows.l1 k y0 y1 y2 y3 y4 y5) (athanorlaw06_DenseRows.l1 (k + 1) y0 y1 y2 y3 y4 y5))
 | 0 => ⟨fun _ _ _ _ _ r h => by simp [athanorlaw06_DenseRows.j0] at h, fun _ _ _ _ _ _ _ r h => by simp [athanorlaw06_DenseRows.j1] at h, fun _ _ _ _ _ _ _ r h => by simp [athanorlaw06_DenseRows.j2] at h, fun _ _ _ _ _ _ r h => by simp [athanorlaw06_DenseRows.j3] at h, fun _ _ _ _ _ _ _ _ r h => by simp [athanorlaw06_DenseRows.l0] at h, fun _ _ _ _ _ r h => by simp [athanorlaw06_DenseRows.j5] at h, fun _ _ _ _ _ _ r h => by simp [athanorlaw06_DenseRows.l1] at h⟩
 | k + 1 => by
  obtain ⟨ih0, ih1, ih2, ih3, ih4, ih5, ih6⟩ := athanorlaw06_DenseRows.mono_l k
  refine ⟨?_, ?_, ?_, ?_, ?_, ?_, ?_⟩
  ·intro y0 y1 y2 y3 y4
   unfold athanorlaw06_DenseRows.j0
   repeat' first
   | (with_reducible exact ih0 _ _ _ _ _)
   | (with_reducible exact ih1 _ _ _ _ _ _ _)
   | (with_reducible exact ih2 _ _ _ _ _ _ _)
   | (with_reducible exact ih3 _ _ _ _ _ _)
   | (with_reducible exact ih4 _ _ _ _ _ _ _ _)
   | (with_reducible exact ih5 _ _ _ _ _)
   | (with_reducible exact ih6 _ _ _ _ _ _)
   | (with_reducible exact athanorlaw06_right.mono _ _ _)
   | (with_reducible exact dense_Column.mono _ _ _ _)
   | (with_reducible exact dense_Row.mono _ _ _ _)
   | (with_reducible exact LeO.refl _)
   | (with_reducible exact LeO.none _)
   | (with_reducible refine LeO.ite ?_ ?_)
   | (with_reducible refine LeO.bind ?_ (fun _ => ?_))
   | exact ih0 _ _ _ _ _
   | exact ih1 _ _ _ _ _ _ _
   | exact ih2 _ _ _ _ _ _ _
   | exact ih3 _ _ _ _ _ _
   | exact ih4 _ _ _ _ _ _ _ _
   | exact ih5 _ _ _ _ _
   | exact ih6 _ _ _ _ _ _
   | exact athanorlaw06_right.mono _ _ _
   | exact dense_Column.mono _ _ _ _
   | exact dense_Row.mono _ _ _ _
   | exact LeO.none _
   | refine LeO.ite ?_ ?_
   | refine LeO.bind ?_ (fun _ => ?_)
  ·intro y0 y1 y2 y3 y4 y5 y6
   unfold athanorlaw06_DenseRows.j1
   repeat' first
   | (with_reducible exact ih0 _ _ _ _ _)
   | (with_reducible exact ih1 _ _ _ _ _ _ _)
   | (with_reducible exact ih2 _ _ _ _ _ _ _)
   | (with_reducible exact ih3 _ _ _ _ _ _)
   | (with_reducible exact ih4 _ _ _ _ _ _ _ _)
   | (with_reducible exact ih5 _ _ _ _ _)
   | (with_reducible exact ih6 _ _ _ _ _ _)
   | (with_reducible exact athanorlaw06_right.mono _ _ _)
   | (with_reducible exact dense_Column.mono _ _ _ _)
   | (with_reducible exact dense_Row.mono _ _ _ _)
   | (with_reducible exact LeO.refl _)
   | (with_reducible exact LeO.none _)
   | (with_reducible refine LeO.ite ?_ ?_)
   | (with_reducible refine LeO.bind ?_ (fun _ => ?_))
   | exact ih0 _ _ _ _ _
   | exact ih1 _ _ _ _ _ _ _
   | exact ih2 _ _ _ _ _ _ _
   | exact ih3 _ _ _ _ _ _
   | exact ih4 _ _ _ _ _ _ _ _
   | exact ih5 _ _ _ _ _
   | exact ih6 _ _ _ _ _ _
   | exact athanorlaw06_right.mono _ _ _
   | exact dense_Column.mono _ _ _ _
   | exact dense_Row.mono _ _ _ _
   | exact LeO.none _
   | refine LeO.ite ?_ ?_
   | refine LeO.bind ?_ (fun _ => ?_)
  ·intro y0 y1 y2 y3 y4 y5 y6
   unfold athanorlaw06_DenseRows.j2
   repeat' first
   | (with_reducible exact ih0 _ _ _ _ _)
   | (with_reducible exact ih1 _ _ _ _ _ _ _)
   | (with_reducible exact ih2 _ _ _ _ _ _ _)
   | (with_reducible exact ih3 _ _ _ _ _ _)
   | (with_reducible exact ih4 _ _ _ _ _ _ _ _)
   | (with_reducible exact ih5 _ _ _ _ _)
   | (with_reducible exact ih6 _ _ _ _ _ _)
   | (with_reducible exact athanorlaw06_right.mono _ _ _)
   | (with_reducible exact dense_Column.mono _ _ _ _)
   | (with_reducible exact dense_Row.mono _ _ _ _)
   | (with_reducible exact LeO.refl _)
   | (with_reducible exact LeO.none _)
   | (with_reducible refine LeO.ite ?_ ?_)
   | (with_reducible refine LeO.bind ?_ (fun _ => ?_))
   | exact ih0 _ _ _ _ _
   | exact ih1 _ _ _ _ _ _ _
   | exact ih2 _ _ _ _ _ _ _
   | exact ih3 _ _ _ _ _ _
   | exact ih4 _ _ _ _ _ _ _ _
   | exact ih5 _ _ _ _ _
   | exact ih6 _ _ _ _ _ _
   | exact athanorlaw06_right.mono _ _ _
   | exact dense_Column.mono _ _ _ _
   | exact dense_Row.mono _ _ _ _
   | exact LeO.none _
   | refine LeO.ite ?_ ?_
   | refine LeO.bind ?_ (fun _ => ?_)
  ·intro y0 y1 y2 y3 y4 y5
   unfold athanorlaw06_DenseRows.j3
   repeat' first
   | (with_reducible exact ih0 _ _ _ _ _)
   | (with_reducible exact ih1 _ _ _ _ _ _ _)
   | (with_reducible exact ih2 _ _ _ _ _ _ _)
   | (with_reducible exact ih3 _ _ _ _ _ _)
   | (with_reducible exact ih4 _ _ _ _ _ _ _ _)
   | (with_reducible exact ih5 _ _ _ _ _)
   | (with_reducible exact ih6 _ _ _ _ _ _)
   | (with_reducible exact athanorlaw06_right.mono _ _ _)
   | (with_reducible exact dense_Column.mono _ _ _ _)
   | (with_reducible exact dense_Row.mono _ _ _ _)
   | (with_reducible exact LeO.refl _)
   | (with_reducible exact LeO.none _)
   | (with_reducible refine LeO.ite ?_ ?_)
   | (with_reducible refine LeO.bind ?_ (fun _ => ?_))
   | exact ih0 _ _ _ _ _
   | exact ih1 _ _ _ _ _ _ _
   | exact ih2 _ _ _ _ _ _ _
   | exact ih3 _ _ _ _ _ _
   | exact ih4 _ _ _ _ _ _ _ _
   | exact ih5 _ _ _ _ _
   | exact ih6 _ _ _ _ _ _
   | exact athanorlaw06_right.mono _ _ _
   | exact dense_Column.mono _ _ _ _
   | exact dense_Row.mono _ _ _ _
   | exact LeO.none _
   | refine LeO.ite ?_ ?_
   | refine LeO.bind ?_ (fun _ => ?_)
  ·intro y0 y1 y2 y3 y4 y5 y6 y7
   unfold athanorlaw06_DenseRows.l0
   repeat' first
   | (with_reducible exact ih0 _ _ _ _ _)
   | (with_reducible exact ih1 _ _ _ _ _ _ _)
   | (with_reducible exact ih2 _ _ _ _ _ _ _)
   | (with_reducible exact ih3 _ _ _ _ _ _)
   | (with_reducible exact ih4 _ _ _ _ _ _ _ _)
   | (with_reducible exact ih5 _ _ _ _ _)
   | (with_reducible exact ih6 _ _ _ _ _ _)
   | (with_reducible exact athanorlaw06_right.mono _ _ _)
   | (with_reducible exact dense_Column.mono _ _ _ _)
   | (with_reducible exact dense_Row.mono _ _ _ _)
   | (with_reducible exact LeO.refl _)
   | (with_reducible exact LeO.none _)
   | (with_reducible refine LeO.ite ?_ ?_)
   | (with_reducible refine LeO.bind ?_ (fun _ => ?_))
   | exact ih0 _ _ _ _ _
   | exact ih1 _ _ _ _ _ _ _
   | exact ih2 _ _ _ _ _ _ _
   | exact ih3 _ _ _ _ _ _
   | exact ih4 _ _ _ _ _ _ _ _
   | exact ih5 _ _ _ _ _
   | exact ih6 _ _ _ _ _ _
   | exact athanorlaw06_right.mono _ _ _
   | exact dense_Column.mono _ _ _ _
   | exact dense_Row.mono _ _ _ _
   | exact LeO.none _
   | refine LeO.ite ?_ ?_
   | refine LeO.bind ?_ (fun _ => ?_)
  ·intro y0 y1 y2 y3 y4
   unfold athanorlaw06_DenseRows.j5
   repeat' first
   | (with_reducible exact ih0 _ _ _ _ _)
   | (with_reducible exact ih1 _ _ _ _ _ _ _)
   | (with_reducible exact ih2 _ _ _ _ _ _ _)
   | (with_reducible exact ih3 _ _ _ _ _ _)
   | (with_reducible exact ih4 _ _ _ _ _ _ _ _)
   | (with_reducible exact ih5 _ _ _ _ _)
   | (with_reducible exact ih6 _ _ _ _ _ _)
   | (with_reducible exact athanorlaw06_right.mono _ _ _)
   | (with_reducible exact dense_Column.mono _ _ _ _)
   | (with_reducible exact dense_Row.mono _ _ _ _)
   | (with_reducible exact LeO.refl _)
   | (with_reducible exact LeO.none _)
   | (with_reducible refine LeO.ite ?_ ?_)
   | (with_reducible refine LeO.bind ?_ (fun _ => ?_))
   | exact ih0 _ _ _ _ _
   | exact ih1 _ _ _ _ _ _ _
   | exact ih2 _ _ _ _ _ _ _
   | exact ih3 _ _ _ _ _ _
   | exact ih4 _ _ _ _ _ _ _ _
   | exact ih5 _ _ _ _ _
   | exact ih6 _ _ _ _ _ _
   | exact athanorlaw06_right.mono _ _ _
   | exact dense_Column.mono _ _ _ _
   | exact dense_Row.mono _ _ _ _
   | exact LeO.none _
   | refine LeO.ite ?_ ?_
   | refine LeO.bind ?_ (fun _ => ?_)
  ·intro y0 y1 y2 y3 y4 y5
   unfold athanorlaw06_DenseRows.l1
   repeat' first
   | (with_reducible exact ih0 _ _ _ _ _)
   | (with_reducible exact ih1 _ _ _ _ _ _ _)
   | (with_reducible exact ih2 _ _ _ _ _ _ _)
   | (with_reducible exact ih3 _ _ _ _ _ _)
   | (with_reducible exact ih4 _ _ _ _ _ _ _ _)
   | (with_reducible exact ih5 _ _ _ _ _)
   | (with_reducible exact ih6 _ _ _ _ _ _)
   | (with_reducible exact athanorlaw06_right.mono _ _ _)
   | (with_reducible exact dense_Column.mono _ _ _ _)
   | (with_reducible exact dense_Row.mono _ _ _ _)
   | (with_reducible exact LeO.refl _)
   | (with_reducible exact LeO.none _)
   | (with_reducible refine LeO.ite ?_ ?_)
   | (with_reducible refine LeO.bind ?_ (fun _ => ?_))
   | exact ih0 _ _ _ _ _
   | exact ih1 _ _ _ _ _ _ _
   | exact ih2 _ _ _ _ _ _ _
   | exact ih3 _ _ _ _ _ _
   | exact ih4 _ _ _ _ _ _ _ _
   | exact ih5 _ _ _ _ _
   | exact ih6 _ _ _ _ _ _
   | exact athanorlaw06_right.mono _ _ _
   | exact dense_Column.mono _ _ _ _
   | exact dense_Row.mono _ _ _ _
   | exact LeO.none _
   | refine LeO.ite ?_ ?_
   | refine LeO.bind ?_ (fun _ => ?_)
theorem athanorlaw06_DenseRows.mono : ∀ a0 a1 a2 a3 k, LeO (athanorlaw06_DenseRows.f k a0 a1 a2 a3) (athanorlaw06_DenseRows.f (k + 1) a0 a1 a2 a3) := by
 intro a0 a1 a2 a3 k
 obtain ⟨ih0, ih1, ih2, ih3, ih4, ih5, ih6⟩ := athanorlaw06_DenseRows.mono_l k
 unfold athanorlaw06_DenseRows.f
 repeat' first
   | (with_reducible exact ih0 _ _ _ _ _)
   | (with_reducible exact ih1 _ _ _ _ _ _ _)
   | (with_reducible exact ih2 _ _ _ _ _ _ _)
   | (with_reducible exact ih3 _ _ _ _ _ _)
   | (with_reducible exact ih4 _ _ _ _ _ _ _ _)
   | (with_reducible exact ih5 _ _ _ _ _)
   | (with_reducible exact ih6 _ _ _ _ _ _)
   | (with_reducible exact athanorlaw06_right.mono _ _ _)
   | (with_reducible exact dense_Column.mono _ _ _ _)
   | (with_reducible exact dense_Row.mono _ _ _ _)
   | (with_reducible exact LeO.refl _)
   | (with_reducible exact LeO.none _)
   | (with_reducible refine LeO.ite ?_ ?_)
   | (with_reducible refine LeO.bind ?_ (fun _ => ?_))
   | exact ih0 _ _ _ _ _
   | exact ih1 _ _ _ _ _ _ _
   | exact ih2 _ _ _ _ _ _ _
   | exact ih3 _ _ _ _ _ _
   | exact ih4 _ _ _ _ _ _ _ _
   | exact ih5 _ _ _ _ _
   | exact ih6 _ _ _ _ _ _
   | exact athanorlaw06_right.mono _ _ _
   | exact dense_Column.mono _ _ _ _
   | exact dense_Row.mono _ _ _ _
   | exact LeO.none _
   | refine LeO.ite ?_ ?_
   | refine LeO.bind ?_ (fun _ => ?_)
def athanorlaw06_DenseRows.T3 : Bool × List (List Nat × List Nat) := (true, [([], []), ([], []), ([0, 1], [0, 1]), ([], []), ([], []), ([3, 4, 2], [3, 4]), ([2, 5, 0, 1, 2], [2]), ([5, 6, 0, 1, 2, 3, 4, 5, 6], [5])])
def athanorlaw06_DenseRows.B3 : List Nat := [0, 0, 3, 0, 0, 31, 63, 127]
theorem athanorlaw06_DenseRows.tab3 : rtab .any (opsOf Try.f5 3) = athanorlaw06_DenseRows.T3 := by kernel_rfl
theorem athanorlaw06_DenseRows.bits3 : waitsOk athanorlaw06_DenseRows.T3.2 athanorlaw06_DenseRows.B3 = true := by kernel_rfl
set_option maxHeartbeats 8000000 in
set_option maxRecDepth 100000 in
theorem athanorlaw06_DenseRows.calls (k : Nat) (A0_0 : Option Addr) (c0_0 : Nat) (l0_0 : List Int) (A0_1 : Option Addr) (c0_1 : Nat) (l0_1 : List Int) (a1 : Int) (a2 : Int) (r : Bool) (w : World) (hr0_0 : Kd.C (Kd.int .i64) w A0_0 l0_0.length l0_0) (hc0_0 : l0_0.length ≤ c0_0) (hr0_1 : Kd.C (Kd.int .i64) w A0_1 l0_1.length l0_1) (hc0_1 : l0_1.length ≤ c0_1) (h : athanorlaw06_DenseRows.f k l0_0 l0_1 a1 a2 = some r) :
  Calls Try.prog 5 #[.agg #[.slice A0_0 l0_0.length c0_0, .slice A0_1 l0_1.length c0_1], .int .i64 a1, .int .i64 a2] w fun e w' => e = .returned (.bool r) ∧ Below w.heap.size w w' := by
 have hu26 := Try.underlying26
 have HR0_0 := Aside0.mk hr0_0
 have HC0_0 := Aside0.mk hc0_0
 clear hr0_0 hc0_0
 have HR0_1 := Aside0.mk hr0_1
 have HC0_1 := Aside0.mk hc0_1
 clear hr0_1 hc0_1
 have HB := aM (Below.refl w.heap.size w)
 have H : (if (l0_1.length : Int) > 400 then (athanorlaw06_DenseRows.j0 k a1 a2 true l0_0 l0_1) else (athanorlaw06_DenseRows.j0 k a1 a2 (decide ((l0_0.length : Int) > 9)) l0_0 l0_1)) = some r := h
 clear h
 have HC4 := Aside0.mk H
 clear H
 go_enter Try.func5, Try.ntmps5
 go_upto_region 1 with (first | ((with_reducible refine gate_dst (N := 3) rfl ?_); (try (refine gate_guard (by rfl) ?_; dsimp only)); refine box_event ?hg (N := 3) ?hd (cs := #[.slice A0_0 l0_0.length c0_0, .slice A0_1 l0_1.length c0_1]) (t := 26) ?hr ?_; (case hd => rfl); (case hg => rfl); (case hr => first | (go_simp; done) | (go_simp; rfl)); intro gb420 hg w5 hbox hb; have n0_ := aM (below_step (by repeat (first | (with_reducible first|exact HB.out|apply bA|apply bN|apply bD)|exact HB.out)) hb); have n1_ := aM (hbox); have n2_ := aM ((by rw [hg]; exact (below_size (by repeat (first | (with_reducible first|exact HB.out|apply bA|apply bN|apply bD)|exact HB.out))) : w.heap.size ≤ gb420)); have n3_ := aM ((by rw [hg]; exact (below_size (by repeat (first | (with_reducible first|exact HB.out|apply bA|apply bN|apply bD)|exact HB.out))) : w.heap.size ≤ gb420)); clear HB; have HB := n0_; have BK420 := n1_; have GW420 := n2_; have GE420 := n3_; clear n0_ n1_ n2_ n3_; clear hb hbox hg))
 (try simp only [Act.put, List.setIfInBounds_toArray, List.set_cons_zero, List.set_cons_succ])
 go_cut [22] (fun v22 wc => ∃ (kq : Nat) (x22_3 : Bool), v22 = .bool x22_3 ∧ Aside0 (athanorlaw06_DenseRows.j0 kq a1 a2 x22_3 l0_0 l0_1 = some r) ∧ Aside0 (kq ≤ k) ∧ Aside0 (wc.heap[gb420]? = some (.cells #[(.slice A0_0 l0_0.length c0_0), (.slice A0_1 l0_1.length c0_1)] 26 (0, 0))) ∧ Aside0 (Below w.heap.size w wc))
 case first =>
  have H := HC4.out
  clear HC4
  by_cases c6 : (l0_1.length : Int) > 400
  ·rw [if_pos c6] at H
   have c6b0 : decide (400 < (l0_1.length : Int)) = true := decide_eq_true c6
   have c6b1 : decide (400 < l0_1.length) = true := decide_eq_true (by omega)
   clear c6
   (first | rw [c6b0] | (simp only [i64_w, i32_w]; rw [c6b0]) | skip)
   as_aux_lemma =>
    have H' := Aside0.mk H
    clear H
    have hcz7_0 : w5.cell? ⟨gb420, 0, none⟩ = some (.slice A0_0 l0_0.length c0_0) := (blk_cell BK420.out 0).trans rfl
    have hcz7_1 : w5.cell? ⟨gb420, 1, none⟩ = some (.slice A0_1 l0_1.length c0_1) := (blk_cell BK420.out 1).trans rfl
    have hfz7_0 := blk_frozen BK420.out 0
    have hfz7_1 := blk_frozen BK420.out 1
    iterate 7 (first | go_quiet (fail) | try go_wp2)
    go_meet
    case rel => exact ⟨_, (true), (by first | rfl | (simp; done) | (simp [*]; done)), H', ⟨by first | omega|exact Nat.le_refl _⟩, ⟨by (with_reducible repeat (first|apply kN|apply kD|apply kA)); exact BK420.out⟩, ⟨by repeat (first | (with_reducible first|exact HB.out|apply bA|apply bN|apply bD|refine bS ?_ GE420.out)|exact HB.out)⟩⟩
  ·rw [if_neg c6] at H
   have c6b0 : decide (400 < (l0_1.length : Int)) = false := decide_eq_false c6
   have c6b1 : decide (400 < l0_1.length) = false := decide_eq_false (by omega)
   clear c6
   (first | rw [c6b0] | (simp only [i64_w, i32_w]; rw [c6b0]) | skip)
   as_aux_lemma =>
    have H' := Aside0.mk H
    clear H
    have hcz8_0 : w5.cell? ⟨gb420, 0, none⟩ = some (.slice A0_0 l0_0.length c0_0) := (blk_cell BK420.out 0).trans rfl
    have hcz8_1 : w5.cell? ⟨gb420, 1, none⟩ = some (.slice A0_1 l0_1.length c0_1) := (blk_cell BK420.out 1).trans rfl
    have hfz8_0 := blk_frozen BK420.out 0
    have hfz8_1 := blk_frozen BK420.out 1
    iterate 7 (first | go_quiet (fail) | try go_wp2)
    go_meet
    case rel => exact ⟨_, (decide ((l0_0.length : Int) > 9)), (by first | rfl | (simp; done) | (simp [*]; done)), H', ⟨by first | omega|exact Nat.le_refl _⟩, ⟨by (with_reducible repeat (first|apply kN|apply kD|apply kA)); exact BK420.out⟩, ⟨by repeat (first | (with_reducible first|exact HB.out|apply bA|apply bN|apply bD|refine bS ?_ GE420.out)|exact HB.out)⟩⟩
 case rest =>
  clear HC4
  (try clear c6); (try clear c6b0); (try clear c6b1); (try clear hcz7_0); (try clear hcz7_1); (try clear hcz8_0); (try clear hcz8_1); (try clear hfz7_0); (try clear hfz7_1); (try clear hfz8_0); (try clear hfz8_1)
  obtain ⟨kq, x22_3, rfl, HA, HJ3, BK420, HB⟩ := hcut
  cases kq with
  | zero => exact absurd HA.out (by simp [athanorlaw06_DenseRows.j0])
  | succ kj3 =>
   have H := HA.out
   clear HA
   simp only [athanorlaw06_DenseRows.j0] at H
   by_cases c9 : x22_3 = true
   ·subst c9
    have H1 : ((athanorlaw06_awake.f).bind fun t421 => (some t421)) = some r := by rw [if_pos rfl] at H; exact H
    clear H
    have H := H1
    clear H1
    replace H := Option.bind_eq_some_iff.mp H
    obtain ⟨t421, A100, H⟩ := H
    replace H : (some t421) = some r := H
    have A10 := Aside0.mk A100
    clear A100
    as_aux_lemma =>
     obtain rfl := Option.some.inj H
     iterate 7 (first | go_quiet (first | ((with_reducible refine gate_callee (f := 9) rfl ?_); refine goesL_ (some 23) rfl rfl Try.func9 (by kernel_rfl) rfl #[] rfl (by (try simp only [List.map_toArray, List.map_cons, List.map_nil]); first | done | rfl | (simp only [List.length_drop, List.length_take]; rfl)) ?_; (with_reducible refine (athanorlaw06_awake.calls  t421 _ A10.out).mono ?_); rintro e w11 ⟨rfl, hb⟩; refine ⟨_, rfl, ?_⟩; have n0_ := aM (blk_below (g := gb420) (o := .cells #[.slice A0_0 l0_0.length c0_0, .slice A0_1 l0_1.length c0_1] 26 (0, 0)) (by (with_reducible repeat (first|apply kN|apply kD|apply kA)); exact BK420.out) hb); have n1_ := aM (below_step (by repeat (first | (with_reducible first|exact HB.out|apply bA|apply bN|apply bD|refine bS ?_ GE420.out)|exact HB.out)) hb); clear BK420; clear HB; have BK420 := n0_; have HB := n1_; clear n0_ n1_; (try clear hb))) | try go_wp2_with (first | ((with_reducible refine gate_callee (f := 9) rfl ?_); refine goesL_ (some 23) rfl rfl Try.func9 (by kernel_rfl) rfl #[] rfl (by (try simp only [List.map_toArray, List.map_cons, List.map_nil]); first | done | rfl | (simp only [List.length_drop, List.length_take]; rfl)) ?_; (with_reducible refine (athanorlaw06_awake.calls  t421 _ A10.out).mono ?_); rintro e w11 ⟨rfl, hb⟩; refine ⟨_, rfl, ?_⟩; have n0_ := aM (blk_below (g := gb420) (o := .cells #[.slice A0_0 l0_0.length c0_0, .slice A0_1 l0_1.length c0_1] 26 (0, 0)) (by (with_reducible repeat (first|apply kN|apply kD|apply kA)); exact BK420.out) hb); have n1_ := aM (below_step (by repeat (first | (with_reducible first|exact HB.out|apply bA|apply bN|apply bD|refine bS ?_ GE420.out)|exact HB.out)) hb); clear BK420; clear HB; have BK420 := n0_; have HB := n1_; clear n0_ n1_; (try clear hb))))
     go_ret
     exact ⟨by first | rfl | (simp [errW_none, errW_some] <;> rfl) | (simp [*, errW_none, errW_some] <;> rfl), by repeat (first | (with_reducible first|exact HB.out|apply bA|apply bN|apply bD|refine bS ?_ GE420.out)|exact HB.out)⟩
   ·replace c9 := Bool.eq_false_iff.mpr c9
    subst c9
    have H1 : ((dense_Row.f kj3 l0_0 l0_1 a1).bind fun t422 => ((dense_Column.f kj3 l0_0 l0_1 a2).bind fun t425 => ((athanorlaw06_right.f kj3 l0_0 l0_1).bind fun t428 => (if t428 = true then (athanorlaw06_DenseRows.j1 kj3 a1 a2 t422 t425 ((l0_0.length : Int) != 2) l0_0 l0_1) else (athanorlaw06_DenseRows.j1 kj3 a1 a2 t422 t425 true l0_0 l0_1))))) = some r := by rw [if_neg (show ¬ (false = true) by decide)] at H; exact H
    clear H
    have H := H1
    clear H1
    replace H := Option.bind_eq_some_iff.mp H
    obtain ⟨t422, A120, H⟩ := H
    replace H : ((dense_Column.f kj3 l0_0 l0_1 a2).bind fun t425 => ((athanorlaw06_right.f kj3 l0_0 l0_1).bind fun t428 => (if t428 = true then (athanorlaw06_DenseRows.j1 kj3 a1 a2 t422 t425 ((l0_0.length : Int) != 2) l0_0 l0_1) else (athanorlaw06_DenseRows.j1 kj3 a1 a2 t422 t425 true l0_0 l0_1)))) = some r := H
    have A12 := Aside0.mk A120
    clear A120
    replace H := Option.bind_eq_some_iff.mp H
    obtain ⟨t425, A130, H⟩ := H
    replace H : ((athanorlaw06_right.f kj3 l0_0 l0_1).bind fun t428 => (if t428 = true then (athanorlaw06_DenseRows.j1 kj3 a1 a2 t422 t425 ((l0_0.length : Int) != 2) l0_0 l0_1) else (athanorlaw06_DenseRows.j1 kj3 a1 a2 t422 t425 true l0_0 l0_1))) = some r := H
    have A13 := Aside0.mk A130
    clear A130
    have HC14 := Aside0.mk H
    clear H
    try go_wp2
    have n0_ := aM (blk_drew BK420.out)
    have n1_ := aM (below_drew1 HB.out)
    clear BK420
    clear HB
    have BK420 := n0_
    have HB := n1_
    clear n0_ n1_
    refine start_ (n := 8) (S := fun w' => w'.cell? ⟨gb420, 0, none⟩ = some (.slice A0_0 l0_0.length c0_0) ∧ w'.cell? ⟨gb420, 1, none⟩ = some (.slice A0_1 l0_1.length c0_1)) (ds := []) #[false, false, false, false, false, false, false, false] (by kernel_rfl) rfl rfl ⟨(blk_cell BK420.out 0).trans rfl, (blk_cell BK420.out 1).trans rfl⟩ (fun hHeld => ?_); refine with_tabW athanorlaw06_DenseRows.tab3 athanorlaw06_DenseRows.bits3 (fun HT_ HW_ => ?_)
    generalize wc.drew = w15 at BK420 HB hHeld ⊢
    refine pure_ (i := 1) (N := some 25) (v := ?_) (a' := ?_) #[false, true, false, false, false, false, false, false] rfl rfl (any_of HT_.out (by kernel_rfl)) (fun _ _ _ h => h) (Or.inl ⟨by rfl, ?_⟩) ?_ ?_
    rotate_left
    ·intro w'
     go_simp
     with_reducible rfl
    rotate_left
    ·simp only [Act.put, List.setIfInBounds_toArray, List.set_cons_zero, List.set_cons_succ, i64_w, i32_w]
     rfl
    refine pure_ (i := 4) (N := some 28) (v := ?_) (a' := ?_) #[false, true, false, false, true, false, false, false] rfl rfl (any_of HT_.out (by kernel_rfl)) (fun _ _ _ h => h) (Or.inl ⟨by rfl, ?_⟩) ?_ ?_
    rotate_left
    ·intro w'
     go_simp
     with_reducible rfl
    rotate_left
    ·simp only [Act.put, List.setIfInBounds_toArray, List.set_cons_zero, List.set_cons_succ, i64_w, i32_w]
     rfl
    refine take_ (i := 0) (N := some 24) (v := ?_) (a' := ?_) #[true, true, false, false, true, false, false, false] rfl rfl (take_ofW HT_.out HW_.out (by kernel_rfl)) (fun _ _ _ h => h) (Or.inl ⟨by rfl, ?_⟩) hHeld ?_ ?_
    rotate_left
    ·rintro w' ⟨s0, s1⟩
     go_simp
     with_reducible rfl
    rotate_left
    ·simp only [Act.put, List.setIfInBounds_toArray, List.set_cons_zero, List.set_cons_succ, i64_w, i32_w]
     rfl
    refine take_ (i := 3) (N := some 27) (v := ?_) (a' := ?_) #[true, true, false, true, true, false, false, false] rfl rfl (take_ofW HT_.out HW_.out (by kernel_rfl)) (fun _ _ _ h => h) (Or.inl ⟨by rfl, ?_⟩) hHeld ?_ ?_
    rotate_left
    ·rintro w' ⟨s0, s1⟩
     go_simp
     with_reducible rfl
    rotate_left
    ·simp only [Act.put, List.setIfInBounds_toArray, List.set_cons_zero, List.set_cons_succ, i64_w, i32_w]
     rfl
    refine one_ (i := 2) (N := some 26) #[true, true, true, true, true, false, false, false] rfl rfl (one_of HT_.out (by kernel_rfl)) (by decide) (fun K hK => ?_)
    refine goes_ Try.func20 (by kernel_rfl) rfl #[.agg #[.slice A0_0 l0_0.length c0_0, .slice A0_1 l0_1.length c0_1], .int .i64 a1] (by rfl) rfl rfl (by (try simp only [List.map_toArray, List.map_cons, List.map_nil]); first | done | rfl | (simp only [List.length_drop, List.length_take]; rfl)) ?_
    with_reducible refine (dense_Row.calls kj3 _ _ l0_0 _ _ l0_1 a1 t422 _ ?side1 ?side2 ?side3 ?side4 A12.out).mono ?_
    (case side1 => repeat (first|exact (Kd.C_below HR0_0.out HB.out) | with_reducible first|apply cA|apply cN|apply cD))
    (case side2 => exact HC0_0.out)
    (case side3 => repeat (first|exact (Kd.C_below HR0_1.out HB.out) | with_reducible first|apply cA|apply cN|apply cD))
    (case side4 => exact HC0_1.out)
    rintro e w16 ⟨v423, rfl, ho0, hb⟩
    refine ⟨_, rfl, ?_⟩
    have n0_ := aM (Kd.R_lower ho0 (below_size (by repeat (first | (with_reducible first|exact HB.out|apply bA|apply bN|apply bD|refine bS ?_ GE420.out)|exact HB.out))))
    have n1_ := aM (blk_below (g := gb420) (o := .cells #[.slice A0_0 l0_0.length c0_0, .slice A0_1 l0_1.length c0_1] 26 (0, 0)) (by (with_reducible repeat (first|apply kN|apply kD|apply kA)); exact BK420.out) hb)
    have n2_ := aM (below_step (by repeat (first | (with_reducible first|exact HB.out|apply bA|apply bN|apply bD|refine bS ?_ GE420.out)|exact HB.out)) hb)
    clear BK420
    clear HB
    have HO424 := n0_
    have BK420 := n1_
    have HB := n2_
    clear n0_ n1_ n2_
    (try clear hb)
    skip
    (try clear hk)
    skip
    (try clear ho0)
    refine hK.out _ _ ⟨(blk_cell BK420.out 0).trans rfl, (blk_cell BK420.out 1).trans rfl⟩ (fun hHeld => ?_)
    clear hK K
    refine norm_ (a' := ?_) ?_ ?_
    rotate_left
    ·show Act.put _ (some 26) _ = _
     simp only [Act.put, List.setIfInBounds_toArray, List.set_cons_zero, List.set_cons_succ, i64_w, i32_w]
     rfl
    refine one_ (i := 5) (N := some 29) #[true, true, true, true, true, true, false, false] rfl rfl (one_of HT_.out (by kernel_rfl)) (by decide) (fun K hK => ?_)
    refine goes_ Try.func21 (by kernel_rfl) rfl #[.agg #[.slice A0_0 l0_0.length c0_0, .slice A0_1 l0_1.length c0_1], .int .i64 a2] (by rfl) rfl rfl (by (try simp only [List.map_toArray, List.map_cons, List.map_nil]); first | done | rfl | (simp only [List.length_drop, List.length_take]; rfl)) ?_
    with_reducible refine (dense_Column.calls kj3 _ _ l0_0 _ _ l0_1 a2 t425 _ ?side1 ?side2 ?side3 ?side4 A13.out).mono ?_
    (case side1 => repeat (first|exact (Kd.C_below HR0_0.out HB.out) | with_reducible first|apply cA|apply cN|apply cD))
    (case side2 => exact HC0_0.out)
    (case side3 => repeat (first|exact (Kd.C_below HR0_1.out HB.out) | with_reducible first|apply cA|apply cN|apply cD))
    (case side4 => exact HC0_1.out)
    rintro e w17 ⟨v426, rfl, ho0, hb⟩
    refine ⟨_, rfl, ?_⟩
    have n0_ := aM (Kd.R_elder' (by (with_reducible repeat (first|apply rA|apply rN|apply rD)); exact HO424.out) (Kd.R_base ho0) hb)
    have n1_ := aM (Kd.R_lower (Kd.R_new' ho0 (Kd.R_lt (by (with_reducible repeat (first|apply rA|apply rN|apply rD)); exact HO424.out))) (below_size (by repeat (first | (with_reducible first|exact HB.out|apply bA|apply bN|apply bD|refine bS ?_ GE420.out)|exact HB.out))))
    have n2_ := aM (blk_below (g := gb420) (o := .cells #[.slice A0_0 l0_0.length c0_0, .slice A0_1 l0_1.length c0_1] 26 (0, 0)) (by (with_reducible repeat (first|apply kN|apply kD|apply kA)); exact BK420.out) hb)
    have n3_ := aM (below_step (by repeat (first | (with_reducible first|exact HB.out|apply bA|apply bN|apply bD|refine bS ?_ GE420.out)|exact HB.out)) hb)
    clear HO424
    clear BK420
    clear HB
    have HO424 := n0_
    have HO427 := n1_
    have BK420 := n2_
    have HB := n3_
    clear n0_ n1_ n2_ n3_
    (try clear hb)
    skip
    (try clear hk)
    skip
    (try clear ho0)
    refine hK.out _ _ ⟨(blk_cell BK420.out 0).trans rfl, (blk_cell BK420.out 1).trans rfl⟩ (fun hHeld => ?_)
    clear hK K
    refine norm_ (a' := ?_) ?_ ?_
    rotate_left
    ·show Act.put _ (some 29) _ = _
     simp only [Act.put, List.setIfInBounds_toArray, List.set_cons_zero, List.set_cons_succ, i64_w, i32_w]
     rfl
    refine pure_ (i := 6) (N := some 7) (v := ?_) (a' := ?_) #[true, true, true, true, true, true, true, false] rfl rfl (any_of HT_.out (by kernel_rfl)) (fun _ _ _ h => h) (Or.inl ⟨by rfl, ?_⟩) ?_ ?_
    rotate_left
    ·intro w'
     go_simp
     with_reducible rfl
    rotate_left
    ·simp only [Act.put, List.setIfInBounds_toArray, List.set_cons_zero, List.set_cons_succ, i64_w, i32_w]
     rfl
    refine pure_ (i := 7) (N := some 8) (v := ?_) (a' := ?_) #[true, true, true, true, true, true, true, true] rfl rfl (any_of HT_.out (by kernel_rfl)) (fun _ _ _ h => h) (Or.inl ⟨by rfl, ?_⟩) ?_ ?_
    rotate_left
    ·intro w'
     go_simp
     with_reducible rfl
    rotate_left
    ·simp only [Act.put, List.setIfInBounds_toArray, List.set_cons_zero, List.set_cons_succ, i64_w, i32_w]
     rfl
    refine done_ (done_of HT_.out (by kernel_rfl)) ?_
    go_upto_region 4 with (fail)
    go_cut [38] (fun v38 wc => ∃ (kq : Nat) (x38_13 : Bool), v38 = .bool x38_13 ∧ Aside0 (athanorlaw06_DenseRows.j1 kq a1 a2 t422 t425 x38_13 l0_0 l0_1 = some r) ∧ Aside0 (kq ≤ kj3) ∧ Aside0 (Kd.R (Kd.int .i64) 47 wc w.heap.size (fun k_ => some k_ ≠ (v426 : Value).ownBlock) v423 t422) ∧ Aside0 (Kd.R (Kd.int .i64) 47 wc w.heap.size (fun k_ => some k_ ≠ (v423 : Value).ownBlock) v426 t425) ∧ Aside0 (wc.heap[gb420]? = some (.cells #[(.slice A0_0 l0_0.length c0_0), (.slice A0_1 l0_1.length c0_1)] 26 (0, 0))) ∧ Aside0 (Below w.heap.size w wc))
    case first =>
     have H := HC14.out
     clear HC14
     replace H := Option.bind_eq_some_iff.mp H
     obtain ⟨t428, A180, H⟩ := H
     replace H : (if t428 = true then (athanorlaw06_DenseRows.j1 kj3 a1 a2 t422 t425 ((l0_0.length : Int) != 2) l0_0 l0_1) else (athanorlaw06_DenseRows.j1 kj3 a1 a2 t422 t425 true l0_0 l0_1)) = some r := H
     have A18 := Aside0.mk A180
     clear A180
     by_cases c19 : t428 = true
     ·subst c19
      have H1 : (athanorlaw06_DenseRows.j1 kj3 a1 a2 t422 t425 ((l0_0.length : Int) != 2) l0_0 l0_1) = some r := by rw [if_pos rfl] at H; exact H
      clear H
      have H := H1
      clear H1
      as_aux_lemma =>
       have H' := Aside0.mk H
       clear H
       have hcz20_0 : w17.cell? ⟨gb420, 0, none⟩ = some (.slice A0_0 l0_0.length c0_0) := (blk_cell BK420.out 0).trans rfl
       have hcz20_1 : w17.cell? ⟨gb420, 1, none⟩ = some (.slice A0_1 l0_1.length c0_1) := (blk_cell BK420.out 1).trans rfl
       have hfz20_0 := blk_frozen BK420.out 0
       have hfz20_1 := blk_frozen BK420.out 1
       iterate 7 (first | go_quiet (first | ((with_reducible refine gate_callee (f := 16) rfl ?_); refine goesL_ (some 31) rfl rfl Try.func16 (by kernel_rfl) rfl #[.agg #[.slice A0_0 l0_0.length c0_0, .slice A0_1 l0_1.length c0_1]] rfl (by (try simp only [List.map_toArray, List.map_cons, List.map_nil]); first | done | rfl | (simp only [List.length_drop, List.length_take]; rfl)) ?_; (with_reducible refine (athanorlaw06_right.calls kj3 _ _ l0_0 _ _ l0_1 true _ ?side1 ?side2 ?side3 ?side4 A18.out).mono ?_); (case side1 => repeat (first|exact (Kd.C_below HR0_0.out HB.out) | with_reducible first|apply cA|apply cN|apply cD)); (case side2 => exact HC0_0.out); (case side3 => repeat (first|exact (Kd.C_below HR0_1.out HB.out) | with_reducible first|apply cA|apply cN|apply cD)); (case side4 => exact HC0_1.out); rintro e w21 ⟨rfl, hb⟩; refine ⟨_, rfl, ?_⟩; have n0_ := aM (Kd.R_below (by (with_reducible repeat (first|apply rA|apply rN|apply rD)); exact HO424.out) hb); have n1_ := aM (Kd.R_below (by (with_reducible repeat (first|apply rA|apply rN|apply rD)); exact HO427.out) hb); have n2_ := aM (blk_below (g := gb420) (o := .cells #[.slice A0_0 l0_0.length c0_0, .slice A0_1 l0_1.length c0_1] 26 (0, 0)) (by (with_reducible repeat (first|apply kN|apply kD|apply kA)); exact BK420.out) hb); have n3_ := aM (below_step (by repeat (first | (with_reducible first|exact HB.out|apply bA|apply bN|apply bD|refine bS ?_ GE420.out)|exact HB.out)) hb); clear HO424; clear HO427; clear BK420; clear HB; have HO424 := n0_; have HO427 := n1_; have BK420 := n2_; have HB := n3_; clear n0_ n1_ n2_ n3_; (try clear hb); have hcz22_0 : w21.cell? ⟨gb420, 0, none⟩ = some (.slice A0_0 l0_0.length c0_0) := (blk_cell BK420.out 0).trans rfl; have hcz22_1 : w21.cell? ⟨gb420, 1, none⟩ = some (.slice A0_1 l0_1.length c0_1) := (blk_cell BK420.out 1).trans rfl; have hfz22_0 := blk_frozen BK420.out 0; have hfz22_1 := blk_frozen BK420.out 1)) | try go_wp2_with (first | ((with_reducible refine gate_callee (f := 16) rfl ?_); refine goesL_ (some 31) rfl rfl Try.func16 (by kernel_rfl) rfl #[.agg #[.slice A0_0 l0_0.length c0_0, .slice A0_1 l0_1.length c0_1]] rfl (by (try simp only [List.map_toArray, List.map_cons, List.map_nil]); first | done | rfl | (simp only [List.length_drop, List.length_take]; rfl)) ?_; (with_reducible refine (athanorlaw06_right.calls kj3 _ _ l0_0 _ _ l0_1 true _ ?side1 ?side2 ?side3 ?side4 A18.out).mono ?_); (case side1 => repeat (first|exact (Kd.C_below HR0_0.out HB.out) | with_reducible first|apply cA|apply cN|apply cD)); (case side2 => exact HC0_0.out); (case side3 => repeat (first|exact (Kd.C_below HR0_1.out HB.out) | with_reducible first|apply cA|apply cN|apply cD)); (case side4 => exact HC0_1.out); rintro e w21 ⟨rfl, hb⟩; refine ⟨_, rfl, ?_⟩; have n0_ := aM (Kd.R_below (by (with_reducible repeat (first|apply rA|apply rN|apply rD)); exact HO424.out) hb); have n1_ := aM (Kd.R_below (by (with_reducible repeat (first|apply rA|apply rN|apply rD)); exact HO427.out) hb); have n2_ := aM (blk_below (g := gb420) (o := .cells #[.slice A0_0 l0_0.length c0_0, .slice A0_1 l0_1.length c0_1] 26 (0, 0)) (by (with_reducible repeat (first|apply kN|apply kD|apply kA)); exact BK420.out) hb); have n3_ := aM (below_step (by repeat (first | (with_reducible first|exact HB.out|apply bA|apply bN|apply bD|refine bS ?_ GE420.out)|exact HB.out)) hb); clear HO424; clear HO427; clear BK420; clear HB; have HO424 := n0_; have HO427 := n1_; have BK420 := n2_; have HB := n3_; clear n0_ n1_ n2_ n3_; (try clear hb); have hcz22_0 : w21.cell? ⟨gb420, 0, none⟩ = some (.slice A0_0 l0_0.length c0_0) := (blk_cell BK420.out 0).trans rfl; have hcz22_1 : w21.cell? ⟨gb420, 1, none⟩ = some (.slice A0_1 l0_1.length c0_1) := (blk_cell BK420.out 1).trans rfl; have hfz22_0 := blk_frozen BK420.out 0; have hfz22_1 := blk_frozen BK420.out 1)))
       go_meet
       case rel => exact ⟨_, (((l0_0.length : Int) != 2)), (by first | rfl | (simp; done) | (simp [*]; done)), H', ⟨by have := HJ3.out; first | omega|exact Nat.le_refl _⟩, ⟨by (with_reducible repeat (first|apply rA|apply rN|apply rD)); exact Kd.R_mono HO424.out (fun _ hk => hk.2)⟩, ⟨by (with_reducible repeat (first|apply rA|apply rN|apply rD)); exact Kd.R_mono HO427.out (fun _ hk => hk.2)⟩, ⟨by (with_reducible repeat (first|apply kN|apply kD|apply kA)); exact BK420.out⟩, ⟨by repeat (first | (with_reducible first|exact HB.out|apply bA|apply bN|apply bD|refine bS ?_ GE420.out)|exact HB.out)⟩⟩
     ·replace c19 := Bool.eq_false_iff.mpr c19
      subst c19
      have H1 : (athanorlaw06_DenseRows.j1 kj3 a1 a2 t422 t425 true l0_0 l0_1) = some r := by rw [if_neg (show ¬ (false = true) by decide)] at H; exact H
      clear H
      have H := H1
      clear H1
      as_aux_lemma =>
       have H' := Aside0.mk H
       clear H
       have hcz23_0 : w17.cell? ⟨gb420, 0, none⟩ = some (.slice A0_0 l0_0.length c0_0) := (blk_cell BK420.out 0).trans rfl
       have hcz23_1 : w17.cell? ⟨gb420, 1, none⟩ = some (.slice A0_1 l0_1.length c0_1) := (blk_cell BK420.out 1).trans rfl
       have hfz23_0 := blk_frozen BK420.out 0
       have hfz23_1 := blk_frozen BK420.out 1
       iterate 7 (first | go_quiet (first | ((with_reducible refine gate_callee (f := 16) rfl ?_); refine goesL_ (some 31) rfl rfl Try.func16 (by kernel_rfl) rfl #[.agg #[.slice A0_0 l0_0.length c0_0, .slice A0_1 l0_1.length c0_1]] rfl (by (try simp only [List.map_toArray, List.map_cons, List.map_nil]); first | done | rfl | (simp only [List.length_drop, List.length_take]; rfl)) ?_; (with_reducible refine (athanorlaw06_right.calls kj3 _ _ l0_0 _ _ l0_1 false _ ?side1 ?side2 ?side3 ?side4 A18.out).mono ?_); (case side1 => repeat (first|exact (Kd.C_below HR0_0.out HB.out) | with_reducible first|apply cA|apply cN|apply cD)); (case side2 => exact HC0_0.out); (case side3 => repeat (first|exact (Kd.C_below HR0_1.out HB.out) | with_reducible first|apply cA|apply cN|apply cD)); (case side4 => exact HC0_1.out); rintro e w24 ⟨rfl, hb⟩; refine ⟨_, rfl, ?_⟩; have n0_ := aM (Kd.R_below (by (with_reducible repeat (first|apply rA|apply rN|apply rD)); exact HO424.out) hb); have n1_ := aM (Kd.R_below (by (with_reducible repeat (first|apply rA|apply rN|apply rD)); exact HO427.out) hb); have n2_ := aM (blk_below (g := gb420) (o := .cells #[.slice A0_0 l0_0.length c0_0, .slice A0_1 l0_1.length c0_1] 26 (0, 0)) (by (with_reducible repeat (first|apply kN|apply kD|apply kA)); exact BK420.out) hb); have n3_ := aM (below_step (by repeat (first | (with_reducible first|exact HB.out|apply bA|apply bN|apply bD|refine bS ?_ GE420.out)|exact HB.out)) hb); clear HO424; clear HO427; clear BK420; clear HB; have HO424 := n0_; have HO427 := n1_; have BK420 := n2_; have HB := n3_; clear n0_ n1_ n2_ n3_; (try clear hb))) | try go_wp2_with (first | ((with_reducible refine gate_callee (f := 16) rfl ?_); refine goesL_ (some 31) rfl rfl Try.func16 (by kernel_rfl) rfl #[.agg #[.slice A0_0 l0_0.length c0_0, .slice A0_1 l0_1.length c0_1]] rfl (by (try simp only [List.map_toArray, List.map_cons, List.map_nil]); first | done | rfl | (simp only [List.length_drop, List.length_take]; rfl)) ?_; (with_reducible refine (athanorlaw06_right.calls kj3 _ _ l0_0 _ _ l0_1 false _ ?side1 ?side2 ?side3 ?side4 A18.out).mono ?_); (case side1 => repeat (first|exact (Kd.C_below HR0_0.out HB.out) | with_reducible first|apply cA|apply cN|apply cD)); (case side2 => exact HC0_0.out); (case side3 => repeat (first|exact (Kd.C_below HR0_1.out HB.out) | with_reducible first|apply cA|apply cN|apply cD)); (case side4 => exact HC0_1.out); rintro e w24 ⟨rfl, hb⟩; refine ⟨_, rfl, ?_⟩; have n0_ := aM (Kd.R_below (by (with_reducible repeat (first|apply rA|apply rN|apply rD)); exact HO424.out) hb); have n1_ := aM (Kd.R_below (by (with_reducible repeat (first|apply rA|apply rN|apply rD)); exact HO427.out) hb); have n2_ := aM (blk_below (g := gb420) (o := .cells #[.slice A0_0 l0_0.length c0_0, .slice A0_1 l0_1.length c0_1] 26 (0, 0)) (by (with_reducible repeat (first|apply kN|apply kD|apply kA)); exact BK420.out) hb); have n3_ := aM (below_step (by repeat (first | (with_reducible first|exact HB.out|apply bA|apply bN|apply bD|refine bS ?_ GE420.out)|exact HB.out)) hb); clear HO424; clear HO427; clear BK420; clear HB; have HO424 := n0_; have HO427 := n1_; have BK420 := n2_; have HB := n3_; clear n0_ n1_ n2_ n3_; (try clear hb))))
       go_meet
       case rel => exact ⟨_, (true), (by first | rfl | (simp; done) | (simp [*]; done)), H', ⟨by have := HJ3.out; first | omega|exact Nat.le_refl _⟩, ⟨by (with_reducible repeat (first|apply rA|apply rN|apply rD)); exact Kd.R_mono HO424.out (fun _ hk => hk.2)⟩, ⟨by (with_reducible repeat (first|apply rA|apply rN|apply rD)); exact Kd.R_mono HO427.out (fun _ hk => hk.2)⟩, ⟨by (with_reducible repeat (first|apply kN|apply kD|apply kA)); exact BK420.out⟩, ⟨by repeat (first | (with_reducible first|exact HB.out|apply bA|apply bN|apply bD|refine bS ?_ GE420.out)|exact HB.out)⟩⟩
    case rest =>
     clear HC14
     (try clear c6); (try clear c6b0); (try clear c6b1); (try clear c9); (try clear c19); (try clear hcz20_0); (try clear hcz20_1); (try clear hcz22_0); (try clear hcz22_1); (try clear hcz23_0); (try clear hcz23_1); (try clear hcz7_0); (try clear hcz7_1); (try clear hcz8_0); (try clear hcz8_1); (try clear hfz20_0); (try clear hfz20_1); (try clear hfz22_0); (try clear hfz22_1); (try clear hfz23_0); (try clear hfz23_1); (try clear hfz7_0); (try clear hfz7_1); (try clear hfz8_0); (try clear hfz8_1)
     obtain ⟨kq, x38_13, rfl, HA, HJ13, HO_7, HO_8, BK420, HB⟩ := hcut
     cases kq with
     | zero => exact absurd HA.out (by simp [athanorlaw06_DenseRows.j1])
     | succ kj13 =>
      have H := HA.out
      clear HA
      simp only [athanorlaw06_DenseRows.j1] at H
      by_cases c25 : x38_13 = true
      ·subst c25
       have H1 : (if (t422.length : Int) = 0 then (if (t425.length : Int) = 0 then ((athanorlaw06_awake.f).bind fun t429 => (some t429)) else (none)) else (none)) = some r := by rw [if_pos rfl] at H; exact H
       clear H
       have H := H1
       clear H1
       by_cases c26 : (t422.length : Int) = 0
       ·rw [if_pos c26] at H
        have c26b0 : ((t422.length : Int) == 0) = true := beq_iff_eq.mpr c26
        have c26b1 : ((t422.length : Int) != 0) = false := bne_eq_false_iff_eq.mpr c26
        clear c26
        by_cases c27 : (t425.length : Int) = 0
        ·rw [if_pos c27] at H
         have c27b0 : ((t425.length : Int) == 0) = true := beq_iff_eq.mpr c27
         have c27b1 : ((t425.length : Int) != 0) = false := bne_eq_false_iff_eq.mpr c27
         clear c27
         replace H := Option.bind_eq_some_iff.mp H
         obtain ⟨t429, A280, H⟩ := H
         replace H : (some t429) = some r := H
         have A28 := Aside0.mk A280
         clear A280
         as_aux_lemma =>
          obtain rfl := Option.some.inj H
          obtain ⟨Ao29, co29, eo29⟩ := Kd.R_slice HO_7.out
          subst eo29
          obtain ⟨Ao30, co30, eo30⟩ := Kd.R_slice HO_8.out
          subst eo30
          iterate 7 (first | go_quiet (first | (go_at_call 9; (with_reducible refine (athanorlaw06_awake.calls  t429 _ A28.out).mono ?_); rintro e w31 ⟨rfl, hb⟩; have n0_ := aM (Kd.R_below (by (with_reducible repeat (first|apply rA|apply rN|apply rD)); exact HO_7.out) hb); have n1_ := aM (Kd.R_below (by (with_reducible repeat (first|apply rA|apply rN|apply rD)); exact HO_8.out) hb); have n2_ := aM (blk_below (g := gb420) (o := .cells #[.slice A0_0 l0_0.length c0_0, .slice A0_1 l0_1.length c0_1] 26 (0, 0)) (by (with_reducible repeat (first|apply kN|apply kD|apply kA)); exact BK420.out) hb); have n3_ := aM (below_step (by repeat (first | (with_reducible first|exact HB.out|apply bA|apply bN|apply bD|refine bS ?_ GE420.out)|exact HB.out)) hb); clear HO_7; clear HO_8; clear BK420; clear HB; have HO_7 := n0_; have HO_8 := n1_; have BK420 := n2_; have HB := n3_; clear n0_ n1_ n2_ n3_; (try clear hb))) | try go_wp2_with (first | (go_at_call 9; (with_reducible refine (athanorlaw06_awake.calls  t429 _ A28.out).mono ?_); rintro e w31 ⟨rfl, hb⟩; have n0_ := aM (Kd.R_below (by (with_reducible repeat (first|apply rA|apply rN|apply rD)); exact HO_7.out) hb); have n1_ := aM (Kd.R_below (by (with_reducible repeat (first|apply rA|apply rN|apply rD)); exact HO_8.out) hb); have n2_ := aM (blk_below (g := gb420) (o := .cells #[.slice A0_0 l0_0.length c0_0, .slice A0_1 l0_1.length c0_1] 26 (0, 0)) (by (with_reducible repeat (first|apply kN|apply kD|apply kA)); exact BK420.out) hb); have n3_ := aM (below_step (by repeat (first | (with_reducible first|exact HB.out|apply bA|apply bN|apply bD|refine bS ?_ GE420.out)|exact HB.out)) hb); clear HO_7; clear HO_8; clear BK420; clear HB; have HO_7 := n0_; have HO_8 := n1_; have BK420 := n2_; have HB := n3_; clear n0_ n1_ n2_ n3_; (try clear hb))))
          go_ret
          exact ⟨by first | rfl | (simp [errW_none, errW_some] <;> rfl) | (simp [*, errW_none, errW_some] <;> rfl), by repeat (first | (with_reducible first|exact HB.out|apply bA|apply bN|apply bD|refine bS ?_ GE420.out)|exact HB.out)⟩
        ·rw [if_neg c27] at H
         exact absurd H (by simp)
       ·rw [if_neg c26] at H
        exact absurd H (by simp)
      ·replace c25 := Bool.eq_false_iff.mpr c25
       subst c25
       have H1 : (if a1 < 0 then (athanorlaw06_DenseRows.j2 kj13 a1 a2 t422 t425 true l0_0 l0_1) else (if 0 < (l0_0.length : Int) then (athanorlaw06_DenseRows.j2 kj13 a1 a2 t422 t425 (decide (a1 ≥ (rd l0_0 0))) l0_0 l0_1) else (none))) = some r := by rw [if_neg (show ¬ (false = true) by decide)] at H; exact H
       clear H
       have H := H1
       clear H1
       have HC32 := Aside0.mk H
       clear H
       go_upto_region 6 with (fail)
       go_cut [59] (fun v59 wc => ∃ (kq : Nat) (x59_31 : Bool), v59 = .bool x59_31 ∧ Aside0 (athanorlaw06_DenseRows.j2 kq a1 a2 t422 t425 x59_31 l0_0 l0_1 = some r) ∧ Aside0 (kq ≤ kj13) ∧ Aside0 (Kd.R (Kd.int .i64) 47 wc w.heap.size (fun k_ => some k_ ≠ (v426 : Value).ownBlock) v423 t422) ∧ Aside0 (Kd.R (Kd.int .i64) 47 wc w.heap.size (fun k_ => some k_ ≠ (v423 : Value).ownBlock) v426 t425) ∧ Aside0 (wc.heap[gb420]? = some (.cells #[(.slice A0_0 l0_0.length c0_0), (.slice A0_1 l0_1.length c0_1)] 26 (0, 0))) ∧ Aside0 (Below w.heap.size w wc))
       case first =>
        have H := HC32.out
        clear HC32
        by_cases c33 : a1 < 0
        ·rw [if_pos c33] at H
         have c33b0 : decide (a1 < 0) = true := decide_eq_true c33
         clear c33
         (first | rw [c33b0] | (simp only [i64_w, i32_w]; rw [c33b0]) | skip)
         as_aux_lemma =>
          have H' := Aside0.mk H
          clear H
          iterate 7 (first | go_quiet (fail) | try go_wp2)
          go_meet
          case rel => exact ⟨_, (true), (by first | rfl | (simp; done) | (simp [*]; done)), H', ⟨by have := HJ3.out; have := HJ13.out; first | omega|exact Nat.le_refl _⟩, ⟨by (with_reducible repeat (first|apply rA|apply rN|apply rD)); exact HO_7.out⟩, ⟨by (with_reducible repeat (first|apply rA|apply rN|apply rD)); exact HO_8.out⟩, ⟨by (with_reducible repeat (first|apply kN|apply kD|apply kA)); exact BK420.out⟩, ⟨by repeat (first | (with_reducible first|exact HB.out|apply bA|apply bN|apply bD|refine bS ?_ GE420.out)|exact HB.out)⟩⟩
        ·rw [if_neg c33] at H
         have c33b0 : decide (a1 < 0) = false := decide_eq_false c33
         clear c33
         (first | rw [c33b0] | (simp only [i64_w, i32_w]; rw [c33b0]) | skip)
         by_cases c34 : 0 < (l0_0.length : Int)
         ·rw [if_pos c34] at H
          have c34b0 : decide (0 < (l0_0.length : Int)) = true := decide_eq_true c34
          have c34b1 : decide (0 < l0_0.length) = true := decide_eq_true (by omega)
          clear c34
          as_aux_lemma =>
           have H' := Aside0.mk H
           clear H
           have hcz35_0 : wc.cell? ⟨gb420, 0, none⟩ = some (.slice A0_0 l0_0.length c0_0) := (blk_cell BK420.out 0).trans rfl
           have hcz35_1 : wc.cell? ⟨gb420, 1, none⟩ = some (.slice A0_1 l0_1.length c0_1) := (blk_cell BK420.out 1).trans rfl
           have hfz35_0 := blk_frozen BK420.out 0
           have hfz35_1 := blk_frozen BK420.out 1
           have p430 : 0 ≤ (0 : Int) := (by omega)
           have q430 : 0 < (l0_0.length : Int) := of_decide_eq_true (by first | (with_reducible assumption) | assumption)
           obtain ⟨ad430, e430, hx430_0⟩ := Kd.at_int HR0_0.out 0 p430 q430
           cases e430
           have qi430 : (0 < l0_0.length) = True := eq_true (by omega)
           (try rw [show ((0 : Int)).toNat = 0 from rfl] at hx430_0)
           (try rw [Addr.add_zero'] at hx430_0)
           replace hx430_0 := (HB.out.cell (World.block_lt_of_cell? w _ hx430_0)).trans hx430_0
           replace p430 := eq_true p430
           replace q430 := eq_true q430
           iterate 7 (first | go_quiet (fail) | try go_wp2)
           go_meet
           case rel => exact ⟨_, (decide (a1 ≥ (rd l0_0 0))), (by first | rfl | (simp; done) | (simp [*]; done)), H', ⟨by have := HJ3.out; have := HJ13.out; first | omega|exact Nat.le_refl _⟩, ⟨by (with_reducible repeat (first|apply rA|apply rN|apply rD)); exact HO_7.out⟩, ⟨by (with_reducible repeat (first|apply rA|apply rN|apply rD)); exact HO_8.out⟩, ⟨by (with_reducible repeat (first|apply kN|apply kD|apply kA)); exact BK420.out⟩, ⟨by repeat (first | (with_reducible first|exact HB.out|apply bA|apply bN|apply bD|refine bS ?_ GE420.out)|exact HB.out)⟩⟩
         ·rw [if_neg c34] at H
          exact absurd H (by simp)
       case rest =>
        clear HC32
        (try clear c6); (try clear c6b0); (try clear c6b1); (try clear c9); (try clear c19); (try clear c25); (try clear c26); (try clear c26b0); (try clear c26b1); (try clear c27); (try clear c27b0); (try clear c27b1); (try clear c33); (try clear c33b0); (try clear c34); (try clear c34b0); (try clear c34b1); (try clear hcz20_0); (try clear hcz20_1); (try clear hcz22_0); (try clear hcz22_1); (try clear hcz23_0); (try clear hcz23_1); (try clear hcz35_0); (try clear hcz35_1); (try clear hcz7_0); (try clear hcz7_1); (try clear hcz8_0); (try clear hcz8_1); (try clear hfz20_0); (try clear hfz20_1); (try clear hfz22_0); (try clear hfz22_1); (try clear hfz23_0); (try clear hfz23_1); (try clear hfz35_0); (try clear hfz35_1); (try clear hfz7_0); (try clear hfz7_1); (try clear hfz8_0); (try clear hfz8_1); (try clear hx430_0); (try clear p430); (try clear q430)
        obtain ⟨kq, x59_31, rfl, HA, HJ31, HO_7, HO_8, BK420, HB⟩ := hcut
        cases kq with
        | zero => exact absurd HA.out (by simp [athanorlaw06_DenseRows.j2])
        | succ kj31 =>
         have H := HA.out
         clear HA
         simp only [athanorlaw06_DenseRows.j2] at H
         have HC36 := Aside0.mk H
         clear H
         go_upto_if 59 with (fail)
         go_cut [] (fun wc => ∃ (kq : Nat), Aside0 (athanorlaw06_DenseRows.j3 kq a1 a2 t422 t425 l0_0 l0_1 = some r) ∧ Aside0 (kq ≤ kj31) ∧ Aside0 (Kd.R (Kd.int .i64) 47 wc w.heap.size (fun k_ => some k_ ≠ (v426 : Value).ownBlock) v423 t422) ∧ Aside0 (Kd.R (Kd.int .i64) 47 wc w.heap.size (fun k_ => some k_ ≠ (v423 : Value).ownBlock) v426 t425) ∧ Aside0 (wc.heap[gb420]? = some (.cells #[(.slice A0_0 l0_0.length c0_0), (.slice A0_1 l0_1.length c0_1)] 26 (0, 0))) ∧ Aside0 (Below w.heap.size w wc))
         case first =>
          have H := HC36.out
          clear HC36
          by_cases c37 : x59_31 = true
          ·subst c37
           have H1 : (if (t422.length : Int) = 0 then (athanorlaw06_DenseRows.j3 kj31 a1 a2 t422 t425 l0_0 l0_1) else (none)) = some r := by rw [if_pos rfl] at H; exact H
           clear H
           have H := H1
           clear H1
           by_cases c38 : (t422.length : Int) = 0
           ·rw [if_pos c38] at H
            have c38b0 : ((t422.length : Int) == 0) = true := beq_iff_eq.mpr c38
            have c38b1 : ((t422.length : Int) != 0) = false := bne_eq_false_iff_eq.mpr c38
            clear c38
            (first | rw [c38b0] | (simp only [i64_w, i32_w]; rw [c38b0]) | skip)
            as_aux_lemma =>
             have H' := Aside0.mk H
             clear H
             obtain ⟨Ao39, co39, eo39⟩ := Kd.R_slice HO_7.out
             subst eo39
             iterate 7 (first | go_quiet (fail) | try go_wp2)
             go_meet
             case rel => exact ⟨_, H', ⟨by have := HJ3.out; have := HJ13.out; have := HJ31.out; first | omega|exact Nat.le_refl _⟩, ⟨by (with_reducible repeat (first|apply rA|apply rN|apply rD)); exact HO_7.out⟩, ⟨by (with_reducible repeat (first|apply rA|apply rN|apply rD)); exact HO_8.out⟩, ⟨by (with_reducible repeat (first|apply kN|apply kD|apply kA)); exact BK420.out⟩, ⟨by repeat (first | (with_reducible first|exact HB.out|apply bA|apply bN|apply bD|refine bS ?_ GE420.out)|exact HB.out)⟩⟩
           ·rw [if_neg c38] at H
            exact absurd H (by simp)
          ·replace c37 := Bool.eq_false_iff.mpr c37
           subst c37
           have H1 : (if 1 < (l0_0.length : Int) then (if (t422.length : Int) = (rd l0_0 1) then (athanorlaw06_DenseRows.j3 kj31 a1 a2 t422 t425 l0_0 l0_1) else (none)) else (none)) = some r := by rw [if_neg (show ¬ (false = true) by decide)] at H; exact H
           clear H
           have H := H1
           clear H1
           by_cases c40 : 1 < (l0_0.length : Int)
           ·rw [if_pos c40] at H
            have c40b0 : decide (1 < (l0_0.length : Int)) = true := decide_eq_true c40
            have c40b1 : decide (1 < l0_0.length) = true := decide_eq_true (by omega)
            clear c40
            by_cases c41 : (t422.length : Int) = (rd l0_0 1)
            ·rw [if_pos c41] at H
             have c41b0 : ((t422.length : Int) == (rd l0_0 1)) = true := beq_iff_eq.mpr c41
             have c41b1 : ((t422.length : Int) != (rd l0_0 1)) = false := bne_eq_false_iff_eq.mpr c41
             clear c41
             as_aux_lemma =>
              have H' := Aside0.mk H
              clear H
              obtain ⟨Ao42, co42, eo42⟩ := Kd.R_slice HO_7.out
              subst eo42
              have hcz43_0 : wc.cell? ⟨gb420, 0, none⟩ = some (.slice A0_0 l0_0.length c0_0) := (blk_cell BK420.out 0).trans rfl
              have hcz43_1 : wc.cell? ⟨gb420, 1, none⟩ = some (.slice A0_1 l0_1.length c0_1) := (blk_cell BK420.out 1).trans rfl
              have hfz43_0 := blk_frozen BK420.out 0
              have hfz43_1 := blk_frozen BK420.out 1
              have p431 : 0 ≤ (1 : Int) := (by omega)
              have q431 : 1 < (l0_0.length : Int) := of_decide_eq_true (by first | (with_reducible assumption) | assumption)
              obtain ⟨ad431, e431, hx431_0⟩ := Kd.at_int HR0_0.out 1 p431 q431
              cases e431
              (try simp only [show (1 : Int).toNat = 1 from rfl, Nat.reduceMul, Nat.reduceEqDiff, Go.Addr.add, ↓reduceIte] at hx431_0)
              have qi431 : (1 < l0_0.length) = True := eq_true (by omega)
              (try rw [show ((1 : Int)).toNat = 1 from rfl] at hx431_0)
              replace hx431_0 := (HB.out.cell (World.block_lt_of_cell? w _ hx431_0)).trans hx431_0
              replace p431 := eq_true p431
              replace q431 := eq_true q431
              iterate 7 (first | go_quiet (fail) | try go_wp2)
              go_meet
              case rel => exact ⟨_, H', ⟨by have := HJ3.out; have := HJ13.out; have := HJ31.out; first | omega|exact Nat.le_refl _⟩, ⟨by (with_reducible repeat (first|apply rA|apply rN|apply rD)); exact HO_7.out⟩, ⟨by (with_reducible repeat (first|apply rA|apply rN|apply rD)); exact HO_8.out⟩, ⟨by (with_reducible repeat (first|apply kN|apply kD|apply kA)); exact BK420.out⟩, ⟨by repeat (first | (with_reducible first|exact HB.out|apply bA|apply bN|apply bD|refine bS ?_ GE420.out)|exact HB.out)⟩⟩
            ·rw [if_neg c41] at H
             exact absurd H (by simp)
           ·rw [if_neg c40] at H
            exact absurd H (by simp)
         case rest =>
          clear HC36
          (try clear c6); (try clear c6b0); (try clear c6b1); (try clear c9); (try clear c19); (try clear c25); (try clear c26); (try clear c26b0); (try clear c26b1); (try clear c27); (try clear c27b0); (try clear c27b1); (try clear c33); (try clear c33b0); (try clear c34); (try clear c34b0); (try clear c34b1); (try clear c37); (try clear c38); (try clear c38b0); (try clear c38b1); (try clear c40); (try clear c40b0); (try clear c40b1); (try clear c41); (try clear c41b0); (try clear c41b1); (try clear hcz20_0); (try clear hcz20_1); (try clear hcz22_0); (try clear hcz22_1); (try clear hcz23_0); (try clear hcz23_1); (try clear hcz35_0); (try clear hcz35_1); (try clear hcz43_0); (try clear hcz43_1); (try clear hcz7_0); (try clear hcz7_1); (try clear hcz8_0); (try clear hcz8_1); (try clear hfz20_0); (try clear hfz20_1); (try clear hfz22_0); (try clear hfz22_1); (try clear hfz23_0); (try clear hfz23_1); (try clear hfz35_0); (try clear hfz35_1); (try clear hfz43_0); (try clear hfz43_1); (try clear hfz7_0); (try clear hfz7_1); (try clear hfz8_0); (try clear hfz8_1); (try clear hx430_0); (try clear hx431_0); (try clear p430); (try clear p431); (try clear q430); (try clear q431)
          obtain ⟨kq, HA, HJ35, HO_7, HO_8, BK420, HB⟩ := hcut
          cases kq with
          | zero => exact absurd HA.out (by simp [athanorlaw06_DenseRows.j3])
          | succ kj35 =>
           have H := HA.out
           clear HA
           simp only [athanorlaw06_DenseRows.j3] at H
           have H' := Aside0.mk H
           clear H
           obtain ⟨Ao44, co44, eo44⟩ := Kd.R_slice HO_7.out
           subst eo44
           iterate 7 (first | go_quiet (fail) | try go_wp2)
           go_loopg [72] kj35 (fun kq v72 w' => ∃ (x72_5 : Int), v72 = .int .i64 x72_5 ∧ Aside0 (athanorlaw06_DenseRows.l0 kq a1 a2 t425 t422 (t422.length : Int) x72_5 l0_0 l0_1 = some r) ∧ Aside0 (kq ≤ kj35) ∧ Aside0 (Kd.R (Kd.int .i64) 47 w' w.heap.size (fun k_ => some k_ ≠ ((.slice Ao44 t422.length co44) : Value).ownBlock) v426 t425) ∧ Aside0 (Kd.R (Kd.int .i64) 47 w' w.heap.size (fun k_ => some k_ ≠ (v426 : Value).ownBlock) (.slice Ao44 t422.length co44) t422) ∧ Aside0 (w'.heap[gb420]? = some (.cells #[(.slice A0_0 l0_0.length c0_0), (.slice A0_1 l0_1.length c0_1)] 26 (0, 0))) ∧ Aside0 (Below w.heap.size w w'))
           case atStart => exact ⟨(0), (by first | rfl | (simp; done) | (simp [*]; done)), H', ⟨Nat.le_refl _⟩, ⟨by (with_reducible repeat (first|apply rA|apply rN|apply rD)); exact HO_8.out⟩, ⟨by (with_reducible repeat (first|apply rA|apply rN|apply rD)); exact HO_7.out⟩, ⟨by (with_reducible repeat (first|apply kN|apply kD|apply kA)); exact BK420.out⟩, ⟨by repeat (first | (with_reducible first|exact HB.out|apply bA|apply bN|apply bD|refine bS ?_ GE420.out)|exact HB.out)⟩⟩
           case round =>
            clear H'
            (try clear c6); (try clear c6b0); (try clear c6b1); (try clear c9); (try clear c19); (try clear c25); (try clear c26); (try clear c26b0); (try clear c26b1); (try clear c27); (try clear c27b0); (try clear c27b1); (try clear c33); (try clear c33b0); (try clear c34); (try clear c34b0); (try clear c34b1); (try clear c37); (try clear c38); (try clear c38b0); (try clear c38b1); (try clear c40); (try clear c40b0); (try clear c40b1); (try clear c41); (try clear c41b0); (try clear c41b1); (try clear hcz20_0); (try clear hcz20_1); (try clear hcz22_0); (try clear hcz22_1); (try clear hcz23_0); (try clear hcz23_1); (try clear hcz35_0); (try clear hcz35_1); (try clear hcz43_0); (try clear hcz43_1); (try clear hcz7_0); (try clear hcz7_1); (try clear hcz8_0); (try clear hcz8_1); (try clear hfz20_0); (try clear hfz20_1); (try clear hfz22_0); (try clear hfz22_1); (try clear hfz23_0); (try clear hfz23_1); (try clear hfz35_0); (try clear hfz35_1); (try clear hfz43_0); (try clear hfz43_1); (try clear hfz7_0); (try clear hfz7_1); (try clear hfz8_0); (try clear hfz8_1); (try clear hx430_0); (try clear hx431_0); (try clear p430); (try clear p431); (try clear q430); (try clear q431)
            obtain ⟨x72_5, rfl, HA, HK5, HO_8, HO_70, BK420, HB⟩ := hrel
            cases gk with
            | zero => exact absurd HA.out (by simp [athanorlaw06_DenseRows.l0])
            | succ k5 =>
             have H := HA.out
             clear HA
             simp only [athanorlaw06_DenseRows.l0] at H
             by_cases c45 : x72_5 < (t422.length : Int)
             ·rw [if_pos c45] at H
              have c45b0 : decide (x72_5 < (t422.length : Int)) = true := decide_eq_true c45
              clear c45
              by_cases c46 : 0 ≤ x72_5
              ·rw [if_pos c46] at H
               have c46b0 : decide (0 ≤ x72_5) = true := decide_eq_true c46
               clear c46
               by_cases c47 : x72_5 < (t422.length : Int)
               ·rw [if_pos c47] at H
                have c47b0 : decide (x72_5 < (t422.length : Int)) = true := decide_eq_true c47
                clear c47
                by_cases c48 : 1 < (l0_0.length : Int)
                ·rw [if_pos c48] at H
                 have c48b0 : decide (1 < (l0_0.length : Int)) = true := decide_eq_true c48
                 have c48b1 : decide (1 < l0_0.length) = true := decide_eq_true (by omega)
                 clear c48
                 obtain ⟨ji49, hji49⟩ : ∃ j_ : Int, (wrap64 ((wrap64 (a1 * (rd l0_0 1))) + x72_5)) = j_ := ⟨_, rfl⟩
                 replace H : (if 0 ≤ (ji49) then (if (ji49) < (l0_1.length : Int) then (if (rd t422 x72_5) = (rd l0_1 (ji49)) then (athanorlaw06_DenseRows.l0 k5 a1 a2 t425 t422 (t422.length : Int) (wrap64 (x72_5 + 1)) l0_0 l0_1) else (none)) else (none)) else (none)) = some r := by first | (rw [hji49] at H; exact H) | (simp only [hji49] at H ⊢; exact H)
                 have hji49w : (IntKind.i64.wrap ((wrap64 (a1 * (rd l0_0 1))) + x72_5)) = ji49 := (i64_w _).trans hji49
                 by_cases c50 : 0 ≤ (ji49)
                 ·rw [if_pos c50] at H
                  have c50b0 : decide (0 ≤ (ji49)) = true := decide_eq_true c50
                  clear c50
                  by_cases c51 : (ji49) < (l0_1.length : Int)
                  ·rw [if_pos c51] at H
                   have c51b0 : decide ((ji49) < (l0_1.length : Int)) = true := decide_eq_true c51
                   clear c51
                   by_cases c52 : (rd t422 x72_5) = (rd l0_1 (ji49))
                   ·rw [if_pos c52] at H
                    have c52b0 : ((rd t422 x72_5) == (rd l0_1 (ji49))) = true := beq_iff_eq.mpr c52
                    have c52b1 : ((rd t422 x72_5) != (rd l0_1 (ji49))) = false := bne_eq_false_iff_eq.mpr c52
                    clear c52
                    as_aux_lemma =>
                     have H' := Aside0.mk H
                     clear H
                     have p432 : 0 ≤ (x72_5 : Int) := of_decide_eq_true (by first | (with_reducible assumption) | assumption)
                     have q432 : x72_5 < (t422.length : Int) := of_decide_eq_true (by first | (with_reducible assumption) | assumption)
                     obtain ⟨ad432, e432, hx432_0⟩ := Kd.at_int (Kd.R_reads' HO_70.out).2.2 x72_5 p432 q432
                     cases e432
                     replace p432 := eq_true p432
                     replace q432 := eq_true q432
                     have hcz53_0 : wr.cell? ⟨gb420, 0, none⟩ = some (.slice A0_0 l0_0.length c0_0) := (blk_cell BK420.out 0).trans rfl
                     have hcz53_1 : wr.cell? ⟨gb420, 1, none⟩ = some (.slice A0_1 l0_1.length c0_1) := (blk_cell BK420.out 1).trans rfl
                     have hfz53_0 := blk_frozen BK420.out 0
                     have hfz53_1 := blk_frozen BK420.out 1
                     have p433 : 0 ≤ (1 : Int) := (by omega)
                     have q433 : 1 < (l0_0.length : Int) := of_decide_eq_true (by first | (with_reducible assumption) | assumption)
                     obtain ⟨ad433, e433, hx433_0⟩ := Kd.at_int HR0_0.out 1 p433 q433
                     cases e433
                     (try simp only [show (1 : Int).toNat = 1 from rfl, Nat.reduceMul, Nat.reduceEqDiff, Go.Addr.add, ↓reduceIte] at hx433_0)
                     have qi433 : (1 < l0_0.length) = True := eq_true (by omega)
                     (try rw [show ((1 : Int)).toNat = 1 from rfl] at hx433_0)
                     replace hx433_0 := (HB.out.cell (World.block_lt_of_cell? w _ hx433_0)).trans hx433_0
                     replace p433 := eq_true p433
                     replace q433 := eq_true q433
                     have p434 : 0 ≤ ((ji49) : Int) := of_decide_eq_true (by first | (with_reducible assumption) | assumption)
                     have q434 : (ji49) < (l0_1.length : Int) := of_decide_eq_true (by first | (with_reducible assumption) | assumption)
                     obtain ⟨ad434, e434, hx434_0⟩ := Kd.at_int HR0_1.out (ji49) p434 q434
                     cases e434
                     replace hx434_0 := (HB.out.cell (World.block_lt_of_cell? w _ hx434_0)).trans hx434_0
                     replace p434 := eq_true p434
                     replace q434 := eq_true q434
                     iterate 7 (first | go_quiet (fail) | try go_wp2)
                     go_roundg k5
                     case measure => have := HJ3.out; have := HJ13.out; have := HJ31.out; have := HJ35.out; have := HK5.out; omega
                     case rel => exact ⟨(wrap64 (x72_5 + 1)), (by first | rfl | (simp; done) | (simp [*]; done)), H', ⟨by have := HJ3.out; have := HJ13.out; have := HJ31.out; have := HJ35.out; have := HK5.out; omega⟩, ⟨by (with_reducible repeat (first|apply rA|apply rN|apply rD)); exact HO_8.out⟩, ⟨by (with_reducible repeat (first|apply rA|apply rN|apply rD)); exact HO_70.out⟩, ⟨by (with_reducible repeat (first|apply kN|apply kD|apply kA)); exact BK420.out⟩, ⟨by repeat (first | (with_reducible first|exact HB.out|apply bA|apply bN|apply bD|refine bS ?_ GE420.out)|exact HB.out)⟩⟩
                   ·rw [if_neg c52] at H
                    exact absurd H (by simp)
                  ·rw [if_neg c51] at H
                   exact absurd H (by simp)
                 ·rw [if_neg c50] at H
                  exact absurd H (by simp)
                ·rw [if_neg c48] at H
                 exact absurd H (by simp)
               ·rw [if_neg c47] at H
                exact absurd H (by simp)
              ·rw [if_neg c46] at H
               exact absurd H (by simp)
             ·rw [if_neg c45] at H
              have c45b0 : decide (x72_5 < (t422.length : Int)) = false := decide_eq_false c45
              clear c45
              have HC54 := Aside0.mk H
              clear H
              go_upto_region 17 with (fail)
              go_cut [101] (fun v101 wc => ∃ (kq : Nat) (x101_53 : Bool), v101 = .bool x101_53 ∧ Aside0 (athanorlaw06_DenseRows.j5 kq a2 t425 x101_53 l0_0 l0_1 = some r) ∧ Aside0 (kq ≤ k5) ∧ Aside0 (Kd.R (Kd.int .i64) 47 wc w.heap.size (fun _ => True) v426 t425) ∧ Aside0 (wc.heap[gb420]? = some (.cells #[(.slice A0_0 l0_0.length c0_0), (.slice A0_1 l0_1.length c0_1)] 26 (0, 0))) ∧ Aside0 (Below w.heap.size w wc))
              case first =>
               have H := HC54.out
               clear HC54
               by_cases c55 : a2 < 0
               ·rw [if_pos c55] at H
                have c55b0 : decide (a2 < 0) = true := decide_eq_true c55
                clear c55
                (first | rw [c55b0] | (simp only [i64_w, i32_w]; rw [c55b0]) | skip)
                as_aux_lemma =>
                 have H' := Aside0.mk H
                 clear H
                 iterate 7 (first | go_quiet (fail) | try go_wp2)
                 go_meet
                 case rel => exact ⟨_, (true), (by first | rfl | (simp; done) | (simp [*]; done)), H', ⟨by have := HJ3.out; have := HJ13.out; have := HJ31.out; have := HJ35.out; have := HK5.out; first | omega|exact Nat.le_refl _⟩, ⟨by (with_reducible repeat (first|apply rA|apply rN|apply rD)); exact Kd.R_mono HO_8.out (fun _ hk => trivial)⟩, ⟨by (with_reducible repeat (first|apply kN|apply kD|apply kA)); exact BK420.out⟩, ⟨by repeat (first | (with_reducible first|exact HB.out|apply bA|apply bN|apply bD|refine bS ?_ GE420.out)|exact HB.out)⟩⟩
               ·rw [if_neg c55] at H
                have c55b0 : decide (a2 < 0) = false := decide_eq_false c55
                clear c55
                (first | rw [c55b0] | (simp only [i64_w, i32_w]; rw [c55b0]) | skip)
                by_cases c56 : 1 < (l0_0.length : Int)
                ·rw [if_pos c56] at H
                 have c56b0 : decide (1 < (l0_0.length : Int)) = true := decide_eq_true c56
                 have c56b1 : decide (1 < l0_0.length) = true := decide_eq_true (by omega)
                 clear c56
                 as_aux_lemma =>
                  have H' := Aside0.mk H
                  clear H
                  have hcz57_0 : wr.cell? ⟨gb420, 0, none⟩ = some (.slice A0_0 l0_0.length c0_0) := (blk_cell BK420.out 0).trans rfl
                  have hcz57_1 : wr.cell? ⟨gb420, 1, none⟩ = some (.slice A0_1 l0_1.length c0_1) := (blk_cell BK420.out 1).trans rfl
                  have hfz57_0 := blk_frozen BK420.out 0
                  have hfz57_1 := blk_frozen BK420.out 1
                  have p435 : 0 ≤ (1 : Int) := (by omega)
                  have q435 : 1 < (l0_0.length : Int) := of_decide_eq_true (by first | (with_reducible assumption) | assumption)
                  obtain ⟨ad435, e435, hx435_0⟩ := Kd.at_int HR0_0.out 1 p435 q435
                  cases e435
                  (try simp only [show (1 : Int).toNat = 1 from rfl, Nat.reduceMul, Nat.reduceEqDiff, Go.Addr.add, ↓reduceIte] at hx435_0)
                  have qi435 : (1 < l0_0.length) = True := eq_true (by omega)
                  (try rw [show ((1 : Int)).toNat = 1 from rfl] at hx435_0)
                  replace hx435_0 := (HB.out.cell (World.block_lt_of_cell? w _ hx435_0)).trans hx435_0
                  replace p435 := eq_true p435
                  replace q435 := eq_true q435
                  iterate 7 (first | go_quiet (fail) | try go_wp2)
                  go_meet
                  case rel => exact ⟨_, (decide (a2 ≥ (rd l0_0 1))), (by first | rfl | (simp; done) | (simp [*]; done)), H', ⟨by have := HJ3.out; have := HJ13.out; have := HJ31.out; have := HJ35.out; have := HK5.out; first | omega|exact Nat.le_refl _⟩, ⟨by (with_reducible repeat (first|apply rA|apply rN|apply rD)); exact Kd.R_mono HO_8.out (fun _ hk => trivial)⟩, ⟨by (with_reducible repeat (first|apply kN|apply kD|apply kA)); exact BK420.out⟩, ⟨by repeat (first | (with_reducible first|exact HB.out|apply bA|apply bN|apply bD|refine bS ?_ GE420.out)|exact HB.out)⟩⟩
                ·rw [if_neg c56] at H
                 exact absurd H (by simp)
              case rest =>
               clear HC54
               (try clear c6); (try clear c6b0); (try clear c6b1); (try clear c9); (try clear c19); (try clear c25); (try clear c26); (try clear c26b0); (try clear c26b1); (try clear c27); (try clear c27b0); (try clear c27b1); (try clear c33); (try clear c33b0); (try clear c34); (try clear c34b0); (try clear c34b1); (try clear c37); (try clear c38); (try clear c38b0); (try clear c38b1); (try clear c40); (try clear c40b0); (try clear c40b1); (try clear c41); (try clear c41b0); (try clear c41b1); (try clear c45); (try clear c45b0); (try clear c46); (try clear c46b0); (try clear c47); (try clear c47b0); (try clear c48); (try clear c48b0); (try clear c48b1); (try clear c50); (try clear c50b0); (try clear c51); (try clear c51b0); (try clear c52); (try clear c52b0); (try clear c52b1); (try clear c55); (try clear c55b0); (try clear c56); (try clear c56b0); (try clear c56b1); (try clear hcz20_0); (try clear hcz20_1); (try clear hcz22_0); (try clear hcz22_1); (try clear hcz23_0); (try clear hcz23_1); (try clear hcz35_0); (try clear hcz35_1); (try clear hcz43_0); (try clear hcz43_1); (try clear hcz53_0); (try clear hcz53_1); (try clear hcz57_0); (try clear hcz57_1); (try clear hcz7_0); (try clear hcz7_1); (try clear hcz8_0); (try clear hcz8_1); (try clear hfz20_0); (try clear hfz20_1); (try clear hfz22_0); (try clear hfz22_1); (try clear hfz23_0); (try clear hfz23_1); (try clear hfz35_0); (try clear hfz35_1); (try clear hfz43_0); (try clear hfz43_1); (try clear hfz53_0); (try clear hfz53_1); (try clear hfz57_0); (try clear hfz57_1); (try clear hfz7_0); (try clear hfz7_1); (try clear hfz8_0); (try clear hfz8_1); (try clear hx430_0); (try clear hx431_0); (try clear hx432_0); (try clear hx433_0); (try clear hx434_0); (try clear hx435_0); (try clear p430); (try clear p431); (try clear p432); (try clear p433); (try clear p434); (try clear p435); (try clear q430); (try clear q431); (try clear q432); (try clear q433); (try clear q434); (try clear q435)
               obtain ⟨kq, x101_53, rfl, HA, HJ53, HO_8, BK420, HB⟩ := hcut
               cases kq with
               | zero => exact absurd HA.out (by simp [athanorlaw06_DenseRows.j5])
               | succ kj53 =>
                have H := HA.out
                clear HA
                simp only [athanorlaw06_DenseRows.j5] at H
                by_cases c58 : x101_53 = true
                ·subst c58
                 have H1 : (if (t425.length : Int) = 0 then ((athanorlaw06_awake.f).bind fun t436 => (some t436)) else (none)) = some r := by rw [if_pos rfl] at H; exact H
                 clear H
                 have H := H1
                 clear H1
                 by_cases c59 : (t425.length : Int) = 0
                 ·rw [if_pos c59] at H
                  have c59b0 : ((t425.length : Int) == 0) = true := beq_iff_eq.mpr c59
                  have c59b1 : ((t425.length : Int) != 0) = false := bne_eq_false_iff_eq.mpr c59
                  clear c59
                  replace H := Option.bind_eq_some_iff.mp H
                  obtain ⟨t436, A600, H⟩ := H
                  replace H : (some t436) = some r := H
                  have A60 := Aside0.mk A600
                  clear A600
                  as_aux_lemma =>
                   obtain rfl := Option.some.inj H
                   obtain ⟨Ao61, co61, eo61⟩ := Kd.R_slice HO_8.out
                   subst eo61
                   iterate 7 (first | go_quiet (first | (go_at_call 9; (with_reducible refine (athanorlaw06_awake.calls  t436 _ A60.out).mono ?_); rintro e w62 ⟨rfl, hb⟩; have n0_ := aM (Kd.R_below (by (with_reducible repeat (first|apply rA|apply rN|apply rD)); exact HO_8.out) hb); have n1_ := aM (blk_below (g := gb420) (o := .cells #[.slice A0_0 l0_0.length c0_0, .slice A0_1 l0_1.length c0_1] 26 (0, 0)) (by (with_reducible repeat (first|apply kN|apply kD|apply kA)); exact BK420.out) hb); have n2_ := aM (below_step (by repeat (first | (with_reducible first|exact HB.out|apply bA|apply bN|apply bD|refine bS ?_ GE420.out)|exact HB.out)) hb); clear HO_8; clear BK420; clear HB; have HO_8 := n0_; have BK420 := n1_; have HB := n2_; clear n0_ n1_ n2_; (try clear hb))) | try go_wp2_with (first | (go_at_call 9; (with_reducible refine (athanorlaw06_awake.calls  t436 _ A60.out).mono ?_); rintro e w62 ⟨rfl, hb⟩; have n0_ := aM (Kd.R_below (by (with_reducible repeat (first|apply rA|apply rN|apply rD)); exact HO_8.out) hb); have n1_ := aM (blk_below (g := gb420) (o := .cells #[.slice A0_0 l0_0.length c0_0, .slice A0_1 l0_1.length c0_1] 26 (0, 0)) (by (with_reducible repeat (first|apply kN|apply kD|apply kA)); exact BK420.out) hb); have n2_ := aM (below_step (by repeat (first | (with_reducible first|exact HB.out|apply bA|apply bN|apply bD|refine bS ?_ GE420.out)|exact HB.out)) hb); clear HO_8; clear BK420; clear HB; have HO_8 := n0_; have BK420 := n1_; have HB := n2_; clear n0_ n1_ n2_; (try clear hb))))
                   go_ret
                   exact ⟨by first | rfl | (simp [errW_none, errW_some] <;> rfl) | (simp [*, errW_none, errW_some] <;> rfl), by repeat (first | (with_reducible first|exact HB.out|apply bA|apply bN|apply bD|refine bS ?_ GE420.out)|exact HB.out)⟩
                 ·rw [if_neg c59] at H
                  exact absurd H (by simp)
                ·replace c58 := Bool.eq_false_iff.mpr c58
                 subst c58
                 have H1 : (if 0 < (l0_0.length : Int) then (if (t425.length : Int) = (rd l0_0 0) then (athanorlaw06_DenseRows.l1 kj53 a2 t425 (t425.length : Int) 0 l0_0 l0_1) else (none)) else (none)) = some r := by rw [if_neg (show ¬ (false = true) by decide)] at H; exact H
                 clear H
                 have H := H1
                 clear H1
                 by_cases c63 : 0 < (l0_0.length : Int)
                 ·rw [if_pos c63] at H
                  have c63b0 : decide (0 < (l0_0.length : Int)) = true := decide_eq_true c63
                  have c63b1 : decide (0 < l0_0.length) = true := decide_eq_true (by omega)
                  clear c63
                  by_cases c64 : (t425.length : Int) = (rd l0_0 0)
                  ·rw [if_pos c64] at H
                   have c64b0 : ((t425.length : Int) == (rd l0_0 0)) = true := beq_iff_eq.mpr c64
                   have c64b1 : ((t425.length : Int) != (rd l0_0 0)) = false := bne_eq_false_iff_eq.mpr c64
                   clear c64
                   have H' := Aside0.mk H
                   clear H
                   obtain ⟨Ao65, co65, eo65⟩ := Kd.R_slice HO_8.out
                   subst eo65
                   have hcz66_0 : wc.cell? ⟨gb420, 0, none⟩ = some (.slice A0_0 l0_0.length c0_0) := (blk_cell BK420.out 0).trans rfl
                   have hcz66_1 : wc.cell? ⟨gb420, 1, none⟩ = some (.slice A0_1 l0_1.length c0_1) := (blk_cell BK420.out 1).trans rfl
                   have hfz66_0 := blk_frozen BK420.out 0
                   have hfz66_1 := blk_frozen BK420.out 1
                   have p437 : 0 ≤ (0 : Int) := (by omega)
                   have q437 : 0 < (l0_0.length : Int) := of_decide_eq_true (by first | (with_reducible assumption) | assumption)
                   obtain ⟨ad437, e437, hx437_0⟩ := Kd.at_int HR0_0.out 0 p437 q437
                   cases e437
                   have qi437 : (0 < l0_0.length) = True := eq_true (by omega)
                   (try rw [show ((0 : Int)).toNat = 0 from rfl] at hx437_0)
                   (try rw [Addr.add_zero'] at hx437_0)
                   replace hx437_0 := (HB.out.cell (World.block_lt_of_cell? w _ hx437_0)).trans hx437_0
                   replace p437 := eq_true p437
                   replace q437 := eq_true q437
                   iterate 7 (first | go_quiet (fail) | try go_wp2)
                   go_loopg [117] kj53 (fun kq v117 w' => ∃ (x117_7 : Int), v117 = .int .i64 x117_7 ∧ Aside0 (athanorlaw06_DenseRows.l1 kq a2 t425 (t425.length : Int) x117_7 l0_0 l0_1 = some r) ∧ Aside0 (kq ≤ kj53) ∧ Aside0 (Kd.R (Kd.int .i64) 47 w' w.heap.size (fun _ => True) (.slice Ao65 t425.length co65) t425) ∧ Aside0 (w'.heap[gb420]? = some (.cells #[(.slice (some ad437) l0_0.length c0_0), (.slice A0_1 l0_1.length c0_1)] 26 (0, 0))) ∧ Aside0 (Below w.heap.size w w'))
                   case atStart => exact ⟨(0), (by first | rfl | (simp; done) | (simp [*]; done)), H', ⟨Nat.le_refl _⟩, ⟨by (with_reducible repeat (first|apply rA|apply rN|apply rD)); exact HO_8.out⟩, ⟨by (with_reducible repeat (first|apply kN|apply kD|apply kA)); exact BK420.out⟩, ⟨by repeat (first | (with_reducible first|exact HB.out|apply bA|apply bN|apply bD|refine bS ?_ GE420.out)|exact HB.out)⟩⟩
                   case round =>
                    clear H'
                    (try clear c6); (try clear c6b0); (try clear c6b1); (try clear c9); (try clear c19); (try clear c25); (try clear c26); (try clear c26b0); (try clear c26b1); (try clear c27); (try clear c27b0); (try clear c27b1); (try clear c33); (try clear c33b0); (try clear c34); (try clear c34b0); (try clear c34b1); (try clear c37); (try clear c38); (try clear c38b0); (try clear c38b1); (try clear c40); (try clear c40b0); (try clear c40b1); (try clear c41); (try clear c41b0); (try clear c41b1); (try clear c45); (try clear c45b0); (try clear c46); (try clear c46b0); (try clear c47); (try clear c47b0); (try clear c48); (try clear c48b0); (try clear c48b1); (try clear c50); (try clear c50b0); (try clear c51); (try clear c51b0); (try clear c52); (try clear c52b0); (try clear c52b1); (try clear c55); (try clear c55b0); (try clear c56); (try clear c56b0); (try clear c56b1); (try clear c58); (try clear c59); (try clear c59b0); (try clear c59b1); (try clear c63); (try clear c63b0); (try clear c63b1); (try clear c64); (try clear c64b0); (try clear c64b1); (try clear hcz20_0); (try clear hcz20_1); (try clear hcz22_0); (try clear hcz22_1); (try clear hcz23_0); (try clear hcz23_1); (try clear hcz35_0); (try clear hcz35_1); (try clear hcz43_0); (try clear hcz43_1); (try clear hcz53_0); (try clear hcz53_1); (try clear hcz57_0); (try clear hcz57_1); (try clear hcz66_0); (try clear hcz66_1); (try clear hcz7_0); (try clear hcz7_1); (try clear hcz8_0); (try clear hcz8_1); (try clear hfz20_0); (try clear hfz20_1); (try clear hfz22_0); (try clear hfz22_1); (try clear hfz23_0); (try clear hfz23_1); (try clear hfz35_0); (try clear hfz35_1); (try clear hfz43_0); (try clear hfz43_1); (try clear hfz53_0); (try clear hfz53_1); (try clear hfz57_0); (try clear hfz57_1); (try clear hfz66_0); (try clear hfz66_1); (try clear hfz7_0); (try clear hfz7_1); (try clear hfz8_0); (try clear hfz8_1); (try clear hx430_0); (try clear hx431_0); (try clear hx432_0); (try clear hx433_0); (try clear hx434_0); (try clear hx435_0); (try clear hx437_0); (try clear p430); (try clear p431); (try clear p432); (try clear p433); (try clear p434); (try clear p435); (try clear p437); (try clear q430); (try clear q431); (try clear q432); (try clear q433); (try clear q434); (try clear q435); (try clear q437)
                    obtain ⟨x117_7, rfl, HA, HK7, HO_115, BK420, HB⟩ := hrel
                    cases gk with
                    | zero => exact absurd HA.out (by simp [athanorlaw06_DenseRows.l1])
                    | succ k7 =>
                     have H := HA.out
                     clear HA
                     simp only [athanorlaw06_DenseRows.l1] at H
                     by_cases c67 : x117_7 < (t425.length : Int)
                     ·rw [if_pos c67] at H
                      have c67b0 : decide (x117_7 < (t425.length : Int)) = true := decide_eq_true c67
                      clear c67
                      by_cases c68 : 0 ≤ x117_7
                      ·rw [if_pos c68] at H
                       have c68b0 : decide (0 ≤ x117_7) = true := decide_eq_true c68
                       clear c68
                       by_cases c69 : x117_7 < (t425.length : Int)
                       ·rw [if_pos c69] at H
                        have c69b0 : decide (x117_7 < (t425.length : Int)) = true := decide_eq_true c69
                        clear c69
                        by_cases c70 : 1 < (l0_0.length : Int)
                        ·rw [if_pos c70] at H
                         have c70b0 : decide (1 < (l0_0.length : Int)) = true := decide_eq_true c70
                         have c70b1 : decide (1 < l0_0.length) = true := decide_eq_true (by omega)
                         clear c70
                         obtain ⟨ji71, hji71⟩ : ∃ j_ : Int, (wrap64 ((wrap64 (x117_7 * (rd l0_0 1))) + a2)) = j_ := ⟨_, rfl⟩
                         replace H : (if 0 ≤ (ji71) then (if (ji71) < (l0_1.length : Int) then (if (rd t425 x117_7) = (rd l0_1 (ji71)) then (athanorlaw06_DenseRows.l1 k7 a2 t425 (t425.length : Int) (wrap64 (x117_7 + 1)) l0_0 l0_1) else (none)) else (none)) else (none)) = some r := by first | (rw [hji71] at H; exact H) | (simp only [hji71] at H ⊢; exact H)
                         have hji71w : (IntKind.i64.wrap ((wrap64 (x117_7 * (rd l0_0 1))) + a2)) = ji71 := (i64_w _).trans hji71
                         by_cases c72 : 0 ≤ (ji71)
                         ·rw [if_pos c72] at H
                          have c72b0 : decide (0 ≤ (ji71)) = true := decide_eq_true c72
                          clear c72
                          by_cases c73 : (ji71) < (l0_1.length : Int)
                          ·rw [if_pos c73] at H
                           have c73b0 : decide ((ji71) < (l0_1.length : Int)) = true := decide_eq_true c73
                           clear c73
                           by_cases c74 : (rd t425 x117_7) = (rd l0_1 (ji71))
                           ·rw [if_pos c74] at H
                            have c74b0 : ((rd t425 x117_7) == (rd l0_1 (ji71))) = true := beq_iff_eq.mpr c74
                            have c74b1 : ((rd t425 x117_7) != (rd l0_1 (ji71))) = false := bne_eq_false_iff_eq.mpr c74
                            clear c74
                            as_aux_lemma =>
                             have H' := Aside0.mk H
                             clear H
                             have p438 : 0 ≤ (x117_7 : Int) := of_decide_eq_true (by first | (with_reducible assumption) | assumption)
                             have q438 : x117_7 < (t425.length : Int) := of_decide_eq_true (by first | (with_reducible assumption) | assumption)
                             obtain ⟨ad438, e438, hx438_0⟩ := Kd.at_int (Kd.R_reads' HO_115.out).2.2 x117_7 p438 q438
                             cases e438
                             replace p438 := eq_true p438
                             replace q438 := eq_true q438
                             have hcz75_0 : wr.cell? ⟨gb420, 0, none⟩ = some (.slice (some ad437) l0_0.length c0_0) := (blk_cell BK420.out 0).trans rfl
                             have hcz75_1 : wr.cell? ⟨gb420, 1, none⟩ = some (.slice A0_1 l0_1.length c0_1) := (blk_cell BK420.out 1).trans rfl
                             have hfz75_0 := blk_frozen BK420.out 0
                             have hfz75_1 := blk_frozen BK420.out 1
                             have p439 : 0 ≤ (1 : Int) := (by omega)
                             have q439 : 1 < (l0_0.length : Int) := of_decide_eq_true (by first | (with_reducible assumption) | assumption)
                             obtain ⟨ad439, e439, hx439_0⟩ := Kd.at_int HR0_0.out 1 p439 q439
                             obtain rfl : ad437 = ad439 := (by injection e439)
                             (try simp only [show (1 : Int).toNat = 1 from rfl, Nat.reduceMul, Nat.reduceEqDiff, Go.Addr.add, ↓reduceIte] at hx439_0)
                             have qi439 : (1 < l0_0.length) = True := eq_true (by omega)
                             (try rw [show ((1 : Int)).toNat = 1 from rfl] at hx439_0)
                             replace hx439_0 := (HB.out.cell (World.block_lt_of_cell? w _ hx439_0)).trans hx439_0
                             replace p439 := eq_true p439
                             replace q439 := eq_true q439
                             have p440 : 0 ≤ ((ji71) : Int) := of_decide_eq_true (by first | (with_reducible assumption) | assumption)
                             have q440 : (ji71) < (l0_1.length : Int) := of_decide_eq_true (by first | (with_reducible assumption) | assumption)
                             obtain ⟨ad440, e440, hx440_0⟩ := Kd.at_int HR0_1.out (ji71) p440 q440
                             cases e440
                             replace hx440_0 := (HB.out.cell (World.block_lt_of_cell? w _ hx440_0)).trans hx440_0
                             replace p440 := eq_true p440
                             replace q440 := eq_true q440
                             iterate 7 (first | go_quiet (fail) | try go_wp2)
                             go_roundg k7
                             case measure => have := HJ3.out; have := HJ13.out; have := HJ31.out; have := HJ35.out; have := HK5.out; have := HJ53.out; have := HK7.out; omega
                             case rel => exact ⟨(wrap64 (x117_7 + 1)), (by first | rfl | (simp; done) | (simp [*]; done)), H', ⟨by have := HJ3.out; have := HJ13.out; have := HJ31.out; have := HJ35.out; have := HK5.out; have := HJ53.out; have := HK7.out; omega⟩, ⟨by (with_reducible repeat (first|apply rA|apply rN|apply rD)); exact HO_115.out⟩, ⟨by (with_reducible repeat (first|apply kN|apply kD|apply kA)); exact BK420.out⟩, ⟨by repeat (first | (with_reducible first|exact HB.out|apply bA|apply bN|apply bD|refine bS ?_ GE420.out)|exact HB.out)⟩⟩
                           ·rw [if_neg c74] at H
                            exact absurd H (by simp)
                          ·rw [if_neg c73] at H
                           exact absurd H (by simp)
                         ·rw [if_neg c72] at H
                          exact absurd H (by simp)
                        ·rw [if_neg c70] at H
                         exact absurd H (by simp)
                       ·rw [if_neg c69] at H
                        exact absurd H (by simp)
                      ·rw [if_neg c68] at H
                       exact absurd H (by simp)
                     ·rw [if_neg c67] at H
                      have c67b0 : decide (x117_7 < (t425.length : Int)) = false := decide_eq_false c67
                      clear c67
                      replace H := Option.bind_eq_some_iff.mp H
                      obtain ⟨t441, A760, H⟩ := H
                      replace H : (some t441) = some r := H
                      have A76 := Aside0.mk A760
                      clear A760
                      as_aux_lemma =>
                       obtain rfl := Option.some.inj H
                       iterate 7 (first | go_quiet (first | ((with_reducible refine gate_callee (f := 9) rfl ?_); refine goesL_ (some 137) rfl rfl Try.func9 (by kernel_rfl) rfl #[] rfl (by (try simp only [List.map_toArray, List.map_cons, List.map_nil]); first | done | rfl | (simp only [List.length_drop, List.length_take]; rfl)) ?_; (with_reducible refine (athanorlaw06_awake.calls  t441 _ A76.out).mono ?_); rintro e w77 ⟨rfl, hb⟩; refine ⟨_, rfl, ?_⟩; have n0_ := aM (Kd.R_below (by (with_reducible repeat (first|apply rA|apply rN|apply rD)); exact HO_115.out) hb); have n1_ := aM (blk_below (g := gb420) (o := .cells #[.slice (some ad437) l0_0.length c0_0, .slice A0_1 l0_1.length c0_1] 26 (0, 0)) (by (with_reducible repeat (first|apply kN|apply kD|apply kA)); exact BK420.out) hb); have n2_ := aM (below_step (by repeat (first | (with_reducible first|exact HB.out|apply bA|apply bN|apply bD|refine bS ?_ GE420.out)|exact HB.out)) hb); clear HO_115; clear BK420; clear HB; have HO_115 := n0_; have BK420 := n1_; have HB := n2_; clear n0_ n1_ n2_; (try clear hb))) | try go_wp2_with (first | ((with_reducible refine gate_callee (f := 9) rfl ?_); refine goesL_ (some 137) rfl rfl Try.func9 (by kernel_rfl) rfl #[] rfl (by (try simp only [List.map_toArray, List.map_cons, List.map_nil]); first | done | rfl | (simp only [List.length_drop, List.length_take]; rfl)) ?_; (with_reducible refine (athanorlaw06_awake.calls  t441 _ A76.out).mono ?_); rintro e w77 ⟨rfl, hb⟩; refine ⟨_, rfl, ?_⟩; have n0_ := aM (Kd.R_below (by (with_reducible repeat (first|apply rA|apply rN|apply rD)); exact HO_115.out) hb); have n1_ := aM (blk_below (g := gb420) (o := .cells #[.slice (some ad437) l0_0.length c0_0, .slice A0_1 l0_1.length c0_1] 26 (0, 0)) (by (with_reducible repeat (first|apply kN|apply kD|apply kA)); exact BK420.out) hb); have n2_ := aM (below_step (by repeat (first | (with_reducible first|exact HB.out|apply bA|apply bN|apply bD|refine bS ?_ GE420.out)|exact HB.out)) hb); clear HO_115; clear BK420; clear HB; have HO_115 := n0_; have BK420 := n1_; have HB := n2_; clear n0_ n1_ n2_; (try clear hb))))
                       go_ret
                       exact ⟨by first | rfl | (simp [errW_none, errW_some] <;> rfl) | (simp [*, errW_none, errW_some] <;> rfl), by repeat (first | (with_reducible first|exact HB.out|apply bA|apply bN|apply bD|refine bS ?_ GE420.out)|exact HB.out)⟩
                  ·rw [if_neg c64] at H
                   exact absurd H (by simp)
                 ·rw [if_neg c63] at H
                  exact absurd H (by simp)

/-- THE ONE PURE STATEMENT of athanorlaw06_DenseRows: yours. -/
def athanorlaw06_DenseRows.Pure : Prop := ∀ (x0 : S26) (x1 : Int) (x2 : Int), good26 x0 → (Lit.int .i64 x1).wf = true → (Lit.int .i64 x2).wf = true → ∃ k, athanorlaw06_DenseRows.f k x0.f0 x0.f1 x1 x2 = some true

end Go.Proofs.Ytgmgjddfceilhaa.PDen
