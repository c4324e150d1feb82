-- printed by wip/tools/xp.py of this project (not trusted: Lean checks it)
import Derived.Test.YtmekcfmhaflghaaPJoix0
import Derived.Test.YtmekcfmhaflghaaPJoiGv
import Derived.Test.YtmekcfmhaflghaaPJoix1
import Derived.Test.YtmekcfmhaflghaaPJoix3
import Derived.Test.YtmekcfmhaflghaaPJoix4
import Derived.Test.YtmekcfmhaflghaaPJoix5
import Derived.Test.YtmekcfmhaflghaaPJoix6
import Derived.Test.YtmekcfmhaflghaaPJoix7
namespace Go.Proofs.Ytmekcfmhaflghaa.PJoi
open Go.RowKit Go.Proofs.YtmekcfmhaflghaaW.PrintWords Go.Proofs.YtmekcfmhaflghaaW.PrintLast Go.Proofs.YtmekcfmhaflghaaW.PrintMore Go.Proofs.Ytmekcfmhaflghaa.XW
attribute [local go_sem] max2_int min2_int max_two min_two max_three min_three max_four min_four max_five min_five   -- for this text's walks alone
set_option linter.unusedVariables false
set_option linter.unusedSimpArgs false

/-! ### athanorlaw04_TensorJoins: function 7 -/
mutual
def athanorlaw04_TensorJoins.j0 : Nat → Bool → List Int → List Int → List Int → List Int → Int → Int → Int → Option (Bool)
 | 0, _, _, _, _, _, _, _, _ => none
 | k + 1, x20, x321000, x321001, x321002, x321003, x321004, x321005, x321006 => if x20 = true then ((athanorlaw04_awake.f k).bind fun t323 => (some t323)) else ((tensor_Join_fix_F.f x321000 x321001 x321002 x321003 x321004).bind fun bt324 => ((athanorlaw04_right.f k x321000 x321001).bind fun t332 => (if t332 = true then ((athanorlaw04_right.f k x321002 x321003).bind fun t333 => (athanorlaw04_TensorJoins.j1 k bt324.2.2 (!t333) x321000 x321001 x321002 x321003 x321004 x321005 x321006 bt324.1 bt324.2.1)) else (athanorlaw04_TensorJoins.j1 k bt324.2.2 true x321000 x321001 x321002 x321003 x321004 x321005 x321006 bt324.1 bt324.2.1))))
def athanorlaw04_TensorJoins.j1 : Nat → Int → Bool → List Int → List Int → List Int → List Int → Int → Int → Int → List Int → List Int → Option (Bool)
 | 0, _, _, _, _, _, _, _, _, _, _, _ => none
 | k + 1, x4, x41, x321000, x321001, x321002, x321003, x321004, x321005, x321006, x332000, x332001 => if x41 = true then (if x4 = 20 then (if (x332001.length : Int) = 0 then ((athanorlaw04_awake.f k).bind fun t334 => (some t334)) else (none)) else (none)) else ((shape_Shape_Join.f k x321000 x321002 x321004).bind fun bt335 => (if bt335.2 = 0 then (if x321004 < 0 then (athanorlaw04_TensorJoins.j2 k x4 bt335.1 true x321000 x321001 x321002 x321003 x321004 x321005 x321006 x332000 x332001) else (if x321004 ≥ (x321000.length : Int) then (athanorlaw04_TensorJoins.j2 k x4 bt335.1 true x321000 x321001 x321002 x321003 x321004 x321005 x321006 x332000 x332001) else (if x321004 ≥ (x321002.length : Int) then (athanorlaw04_TensorJoins.j2 k x4 bt335.1 true x321000 x321001 x321002 x321003 x321004 x321005 x321006 x332000 x332001) else (athanorlaw04_TensorJoins.j2 k x4 bt335.1 ((bt335.1.length : Int) != (x321000.length : Int)) x321000 x321001 x321002 x321003 x321004 x321005 x321006 x332000 x332001)))) else (if x4 = bt335.2 then (if (x332001.length : Int) = 0 then ((athanorlaw04_awake.f k).bind fun t339 => (some t339)) else (none)) else (none))))
def athanorlaw04_TensorJoins.j2 : Nat → Int → List Int → Bool → List Int → List Int → List Int → List Int → Int → Int → Int → List Int → List Int → Option (Bool)
 | 0, _, _, _, _, _, _, _, _, _, _, _, _ => none
 | k + 1, x4, x5, x108, x321000, x321001, x321002, x321003, x321004, x321005, x321006, x332000, x332001 => if x108 = true then (none) else (if 0 ≤ x321004 then (if x321004 < (x321000.length : Int) then ((tensor_Grid_fix_F_Cut.f x332000 x332001 x321004 0 (rd x321000 x321004)).bind fun bt341 => (if x321004 < (x5.length : Int) then ((tensor_Grid_fix_F_Cut.f x332000 x332001 x321004 (rd x321000 x321004) (rd x5 x321004)).bind fun bt351 => (if x4 = 0 then ((shape_Shape_Equal.f k x332000 x5).bind fun t359 => (if t359 = true then ((athanorlaw04_cells.f k x321000 x321001).bind fun t360 => ((athanorlaw04_cells.f k x321002 x321003).bind fun t363 => ((athanorref04_Join.f k x321000 x321002 t360 t363 x321004).bind fun t366 => ((athanorlaw04_same.f k x332000 x332001 t366).bind fun t369 => (if t369 = true then (if bt341.2.2 = 0 then (if bt351.2.2 = 0 then ((tensor_Equal_fix_F.f k bt341.1 bt341.2.1 x321000 x321001).bind fun t370 => (if t370 = true then ((tensor_Equal_fix_F.f k bt351.1 bt351.2.1 x321002 x321003).bind fun t371 => (if t371 = true then ((athanorlaw04_awake.f k).bind fun t372 => (some t372)) else (none))) else (none))) else (none)) else (none)) else (none)))))) else (none))) else (none))) else (none))) else (none)) else (none))
end
def athanorlaw04_TensorJoins.f (k : Nat) (l0_0 : List Int) (l0_1 : List Int) (l0_2 : List Int) (l0_3 : List Int) (a0_4 : Int) (a0_5 : Int) (a0_6 : Int) : Option (Bool) := (athanorlaw04_small.f l0_0 l0_1).bind fun t321 => (if t321 = true then ((athanorlaw04_small.f l0_2 l0_3).bind fun t322 => (athanorlaw04_TensorJoins.j0 k (!t322) l0_0 l0_1 l0_2 l0_3 a0_4 a0_5 a0_6)) else (athanorlaw04_TensorJoins.j0 k true l0_0 l0_1 l0_2 l0_3 a0_4 a0_5 a0_6))
theorem athanorlaw04_TensorJoins.mono_l : ∀ k, (∀ y0 y1 y2 y3 y4 y5 y6 y7, LeO (athanorlaw04_TensorJoins.j0 k y0 y1 y2 y3 y4 y5 y6 y7) (athanorlaw04_TensorJoins.j0 (k + 1) y0 y1 y2 y3 y4 y5 y6 y7)) ∧ (∀ y0 y1 y2 y3 y4 y5 y6 y7 y8 y9 y10, LeO (athanorlaw04_TensorJoins.j1 k y0 y1 y2 y3 y4 y5 y6 y7 y8 y9 y10) (athanorlaw04_TensorJoins.j1 (k + 1) y0 y1 y2 y3 y4 y5 y6 y7 y8 y9 y10)) ∧ (∀ y0 y1 y2 y3 y4 y5 y6 y7 y8 y9 y10 y11, LeO (athanorlaw04_TensorJoins.j2 k y0 y1 y2 y3 y4 y5 y6 y7 y8 y9 y10 y11) (athanorlaw04_TensorJoins.j2 (k + 1) y0 y1 y2 y3 y4 y5 y6 y7 y8 y9 y10 y11))
 | 0 => ⟨fun _ _ _ _ _ _ _ _ r h => by simp [athanorlaw04_TensorJoins.j0] at h, fun _ _ _ _ _ _ _ _ _ _ _ r h => by simp [athanorlaw04_TensorJoins.j1] at h, fun _ _ _ _ _ _ _ _ _ _ _ _ r h => by simp [athanorlaw04_TensorJoins.j2] at h⟩
 | k + 1 => by
  obtain ⟨ih0, ih1, ih2⟩ := athanorlaw04_TensorJoins.mono_l k
  refine ⟨?_, ?_, ?_⟩
  ·intro y0 y1 y2 y3 y4 y5 y6 y7
   unfold athanorlaw04_TensorJoins.j0
   repeat' first
   | (with_reducible exact ih0 _ _ _ _ _ _ _ _)
   | (with_reducible exact ih1 _ _ _ _ _ _ _ _ _ _ _)
   | (with_reducible exact ih2 _ _ _ _ _ _ _ _ _ _ _ _)
   | (with_reducible exact athanorlaw04_awake.mono _)
   | (with_reducible exact athanorlaw04_cells.mono _ _ _)
   | (with_reducible exact athanorlaw04_right.mono _ _ _)
   | (with_reducible exact athanorlaw04_same.mono _ _ _ _)
   | (with_reducible exact athanorref04_Join.mono _ _ _ _ _ _)
   | (with_reducible exact shape_Shape_Equal.mono _ _ _)
   | (with_reducible exact shape_Shape_Join.mono _ _ _ _)
   | (with_reducible exact tensor_Equal_fix_F.mono _ _ _ _ _)
   | (with_reducible exact LeO.refl _)
   | (with_reducible exact LeO.none _)
   | (with_reducible refine LeO.ite ?_ ?_)
   | (with_reducible refine LeO.bind ?_ (fun _ => ?_))
   | exact ih0 _ _ _ _ _ _ _ _
   | exact ih1 _ _ _ _ _ _ _ _ _ _ _
   | exact ih2 _ _ _ _ _ _ _ _ _ _ _ _
   | exact athanorlaw04_awake.mono _
   | exact athanorlaw04_cells.mono _ _ _
   | exact athanorlaw04_right.mono _ _ _
   | exact athanorlaw04_same.mono _ _ _ _
   | exact athanorref04_Join.mono _ _ _ _ _ _
   | exact shape_Shape_Equal.mono _ _ _
   | exact shape_Shape_Join.mono _ _ _ _
   | exact tensor_Equal_fix_F.mono _ _ _ _ _
   | exact LeO.none _
   | refine LeO.ite ?_ ?_
   | refine LeO.bind ?_ (fun _ => ?_)
  ·intro y0 y1 y2 y3 y4 y5 y6 y7 y8 y9 y10
   unfold athanorlaw04_TensorJoins.j1
   repeat' first
   | (with_reducible exact ih0 _ _ _ _ _ _ _ _)
   | (with_reducible exact ih1 _ _ _ _ _ _ _ _ _ _ _)
   | (with_reducible exact ih2 _ _ _ _ _ _ _ _ _ _ _ _)
   | (with_reducible exact athanorlaw04_awake.mono _)
   | (with_reducible exact athanorlaw04_cells.mono _ _ _)
   | (with_reducible exact athanorlaw04_right.mono _ _ _)
   | (with_reducible exact athanorlaw04_same.mono _ _ _ _)
   | (with_reducible exact athanorref04_Join.mono _ _ _ _ _ _)
   | (with_reducible exact shape_Shape_Equal.mono _ _ _)
   | (with_reducible exact shape_Shape_Join.mono _ _ _ _)
   | (with_reducible exact tensor_Equal_fix_F.mono _ _ _ _ _)
   | (with_reducible exact LeO.refl _)
   | (with_reducible exact LeO.none _)
   | (with_reducible refine LeO.ite ?_ ?_)
   | (with_reducible refine LeO.bind ?_ (fun _ => ?_))
   | exact ih0 _ _ _ _ _ _ _ _
   | exact ih1 _ _ _ _ _ _ _ _ _ _ _
   | exact ih2 _ _ _ _ _ _ _ _ _ _ _ _
   | exact athanorlaw04_awake.mono _
   | exact athanorlaw04_cells.mono _ _ _
   | exact athanorlaw04_right.mono _ _ _
   | exact athanorlaw04_same.mono _ _ _ _
   | exact athanorref04_Join.mono _ _ _ _ _ _
   | exact shape_Shape_Equal.mono _ _ _
   | exact shape_Shape_Join.mono _ _ _ _
   | exact tensor_Equal_fix_F.mono _ _ _ _ _
   | exact LeO.none _
   | refine LeO.ite ?_ ?_
   | refine LeO.bind ?_ (fun _ => ?_)
  ·intro y0 y1 y2 y3 y4 y5 y6 y7 y8 y9 y10 y11
   unfold athanorlaw04_TensorJoins.j2
   repeat' first
   | (with_reducible exact ih0 _ _ _ _ _ _ _ _)
   | (with_reducible exact ih1 _ _ _ _ _ _ _ _ _ _ _)
   | (with_reducible exact ih2 _ _ _ _ _ _ _ _ _ _ _ _)
   | (with_reducible exact athanorlaw04_awake.mono _)
   | (with_reducible exact athanorlaw04_cells.mono _ _ _)
   | (with_reducible exact athanorlaw04_right.mono _ _ _)
   | (with_reducible exact athanorlaw04_same.mono _ _ _ _)
   | (with_reducible exact athanorref04_Join.mono _ _ _ _ _ _)
   | (with_reducible exact shape_Shape_Equal.mono _ _ _)
   | (with_reducible exact shape_Shape_Join.mono _ _ _ _)
   | (with_reducible exact tensor_Equal_fix_F.mono _ _ _ _ _)
   | (with_reducible exact LeO.refl _)
   | (with_reducible exact LeO.none _)
   | (with_reducible refine LeO.ite ?_ ?_)
   | (with_reducible refine LeO.bind ?_ (fun _ => ?_))
   | exact ih0 _ _ _ _ _ _ _ _
   | exact ih1 _ _ _ _ _ _ _ _ _ _ _
   | exact ih2 _ _ _ _ _ _ _ _ _ _ _ _
   | exact athanorlaw04_awake.mono _
   | exact athanorlaw04_cells.mono _ _ _
   | exact athanorlaw04_right.mono _ _ _
   | exact athanorlaw04_same.mono _ _ _ _
   | exact athanorref04_Join.mono _ _ _ _ _ _
   | exact shape_Shape_Equal.mono _ _ _
   | exact shape_Shape_Join.mono _ _ _ _
   | exact tensor_Equal_fix_F.mono _ _ _ _ _
   | exact LeO.none _
   | refine LeO.ite ?_ ?_
   | refine LeO.bind ?_ (fun _ => ?_)
theorem athanorlaw04_TensorJoins.mono : ∀ a0 a1 a2 a3 a4 a5 a6 k, LeO (athanorlaw04_TensorJoins.f k a0 a1 a2 a3 a4 a5 a6) (athanorlaw04_TensorJoins.f (k + 1) a0 a1 a2 a3 a4 a5 a6) := by
 intro a0 a1 a2 a3 a4 a5 a6 k
 obtain ⟨ih0, ih1, ih2⟩ := athanorlaw04_TensorJoins.mono_l k
 unfold athanorlaw04_TensorJoins.f
 repeat' first
   | (with_reducible exact ih0 _ _ _ _ _ _ _ _)
   | (with_reducible exact ih1 _ _ _ _ _ _ _ _ _ _ _)
   | (with_reducible exact ih2 _ _ _ _ _ _ _ _ _ _ _ _)
   | (with_reducible exact athanorlaw04_awake.mono _)
   | (with_reducible exact athanorlaw04_cells.mono _ _ _)
   | (with_reducible exact athanorlaw04_right.mono _ _ _)
   | (with_reducible exact athanorlaw04_same.mono _ _ _ _)
   | (with_reducible exact athanorref04_Join.mono _ _ _ _ _ _)
   | (with_reducible exact shape_Shape_Equal.mono _ _ _)
   | (with_reducible exact shape_Shape_Join.mono _ _ _ _)
   | (with_reducible exact tensor_Equal_fix_F.mono _ _ _ _ _)
   | (with_reducible exact LeO.refl _)
   | (with_reducible exact LeO.none _)
   | (with_reducible refine LeO.ite ?_ ?_)
   | (with_reducible refine LeO.bind ?_ (fun _ => ?_))
   | exact ih0 _ _ _ _ _ _ _ _
   | exact ih1 _ _ _ _ _ _ _ _ _ _ _
   | exact ih2 _ _ _ _ _ _ _ _ _ _ _ _
   | exact athanorlaw04_awake.mono _
   | exact athanorlaw04_cells.mono _ _ _
   | exact athanorlaw04_right.mono _ _ _
   | exact athanorlaw04_same.mono _ _ _ _
   | exact athanorref04_Join.mono _ _ _ _ _ _
   | exact shape_Shape_Equal.mono _ _ _
   | exact shape_Shape_Join.mono _ _ _ _
   | exact tensor_Equal_fix_F.mono _ _ _ _ _
   | exact LeO.none _
   | refine LeO.ite ?_ ?_
   | refine LeO.bind ?_ (fun _ => ?_)
def athanorlaw04_TensorJoins.T11 : Bool × List (List Nat × List Nat) := (true, [([], []), ([], []), ([1], [1]), ([], []), ([3], [3]), ([4], [4]), ([], []), ([6], [6]), ([5, 7], [5, 7]), ([8], [8]), ([0, 2, 9], [0, 2, 9]), ([10], [10]), ([11], [11]), ([11], [11]), ([], []), ([14, 12, 10, 0, 1, 2, 3, 4, 5, 6, 7, 8, 9, 10, 11, 12, 14], [12, 14]), ([13, 15, 0, 1, 2, 3, 4, 5, 6, 7, 8, 9, 10, 11, 12, 13, 14, 15], [13])])
def athanorlaw04_TensorJoins.B11 : List Nat := [0, 0, 2, 0, 8, 24, 0, 64, 248, 504, 1023, 2047, 4095, 4095, 0, 24575, 65535]
theorem athanorlaw04_TensorJoins.tab11 : rtab .any (opsOf Try.f7 11) = athanorlaw04_TensorJoins.T11 := by kernel_rfl
theorem athanorlaw04_TensorJoins.bits11 : waitsOk athanorlaw04_TensorJoins.T11.2 athanorlaw04_TensorJoins.B11 = true := by kernel_rfl
def athanorlaw04_TensorJoins.T12 : Bool × List (List Nat × List Nat) := (true, [([], []), ([], []), ([1], [1]), ([], []), ([3], [3]), ([4], [4]), ([], []), ([6], [6]), ([5, 7], [5, 7]), ([8], [8]), ([], []), ([], []), ([11], [11]), ([10, 12], [10, 12]), ([13], [13]), ([0, 2, 9, 14], [0, 2, 9, 14]), ([15], [15]), ([16], [16]), ([16], [16]), ([], []), ([19, 17, 15, 0, 1, 2, 3, 4, 5, 6, 7, 8, 9, 10, 11, 12, 13, 14, 15, 16, 17, 19], [17, 19]), ([18, 20, 0, 1, 2, 3, 4, 5, 6, 7, 8, 9, 10, 11, 12, 13, 14, 15, 16, 17, 18, 19, 20], [18])])
def athanorlaw04_TensorJoins.B12 : List Nat := [0, 0, 2, 0, 8, 24, 0, 64, 248, 504, 0, 0, 2048, 7168, 15360, 32767, 65535, 131071, 131071, 0, 786431, 2097151]
theorem athanorlaw04_TensorJoins.tab12 : rtab .any (opsOf Try.f7 12) = athanorlaw04_TensorJoins.T12 := by kernel_rfl
theorem athanorlaw04_TensorJoins.bits12 : waitsOk athanorlaw04_TensorJoins.T12.2 athanorlaw04_TensorJoins.B12 = true := by kernel_rfl
def athanorlaw04_TensorJoins.T13 : Bool × List (List Nat × List Nat) := (true, [([], []), ([0], [0]), ([1], [1]), ([2], [2]), ([3, 2], [2, 3]), ([2], [2]), ([4, 5, 2, 2], [2, 4, 5]), ([2, 6], [2, 6]), ([7, 6], [7]), ([8], [8]), ([8], [8]), ([10, 8], [8, 10]), ([11, 8], [8, 11]), ([8], [8]), ([13, 8], [8, 13]), ([14, 8], [8, 14]), ([8], [8]), ([16, 8], [8, 16]), ([17, 8, 8], [8, 17]), ([8], [8]), ([19, 8], [8, 19]), ([20, 18, 8], [8, 20]), ([8], [8]), ([22, 8], [8, 22]), ([12, 15, 18, 21, 23, 21, 8], [8, 12, 15, 18, 21, 23]), ([9, 24, 24, 8], [8, 9, 24]), ([8, 25], [8, 25]), ([26, 25], [26]), ([27], [27]), ([28, 27], [27, 28]), ([27, 29], [27, 29]), ([30, 27], [30]), ([31], [31]), ([32, 31], [31, 32]), ([31, 33], [31, 33]), ([34, 31], [34]), ([35], [35]), ([35], [35]), ([37, 35], [35, 37]), ([36, 38, 35, 35], [35, 36, 38]), ([35, 39], [35, 39]), ([40, 39], [40]), ([41], [41]), ([41], [41]), ([43, 41], [41, 43]), ([42, 44, 41, 41], [41, 42, 44]), ([41, 45], [41, 45]), ([46, 45], [46]), ([47, 47], [47]), ([47, 48], [47, 48]), ([49, 48, 0, 1, 2, 3, 4, 5, 6, 7, 8, 9, 10, 11, 12, 13, 14, 15, 16, 17, 18, 19, 20, 21, 22, 23, 24, 25, 26, 27, 28, 29, 30, 31, 32, 33, 34, 35, 36, 37, 38, 39, 40, 41, 42, 43, 44, 45, 46, 47, 48, 49], [49])])
def athanorlaw04_TensorJoins.B13 : List Nat := [0, 1, 3, 7, 15, 7, 63, 127, 255, 511, 511, 1535, 3583, 511, 8703, 25087, 511, 66047, 197119, 511, 524799, 2032127, 511, 4194815, 16776703, 33554431, 67108863, 134217727, 268435455, 536870911, 1073741823, 2147483647, 4294967295, 8589934591, 17179869183, 34359738367, 68719476735, 68719476735, 206158430207, 549755813887, 1099511627775, 2199023255551, 4398046511103, 4398046511103, 13194139533311, 35184372088831, 70368744177663, 140737488355327, 281474976710655, 562949953421311, 1125899906842623]
theorem athanorlaw04_TensorJoins.tab13 : rtab .any (opsOf Try.f7 13) = athanorlaw04_TensorJoins.T13 := by kernel_rfl
theorem athanorlaw04_TensorJoins.bits13 : waitsOk athanorlaw04_TensorJoins.T13.2 athanorlaw04_TensorJoins.B13 = true := by kernel_rfl
set_option maxHeartbeats 8000000 in
set_option maxRecDepth 100000 in
theorem athanorlaw04_TensorJoins.calls (k : Nat) (A0_0 : Option Addr) (c0_0 : Nat) (l0_0 : List Int) (A0_1 : Option Addr) (c0_1 : Nat) (l0_1 : List Int) (A0_2 : Option Addr) (c0_2 : Nat) (l0_2 : List Int) (A0_3 : Option Addr) (c0_3 : Nat) (l0_3 : List Int) (a0_4 : Int) (a0_5 : Int) (a0_6 : Int) (r : Bool) (w : World) (hr0_0 : Kd.C (Kd.int .i64) w A0_0 l0_0.length l0_0) (hc0_0 : l0_0.length ≤ c0_0) (hr0_1 : Kd.C (Kd.int .i64) w A0_1 l0_1.length l0_1) (hc0_1 : l0_1.length ≤ c0_1) (hr0_2 : Kd.C (Kd.int .i64) w A0_2 l0_2.length l0_2) (hc0_2 : l0_2.length ≤ c0_2) (hr0_3 : Kd.C (Kd.int .i64) w A0_3 l0_3.length l0_3) (hc0_3 : l0_3.length ≤ c0_3) (h : athanorlaw04_TensorJoins.f k l0_0 l0_1 l0_2 l0_3 a0_4 a0_5 a0_6 = some r) :
  Calls Try.prog 7 #[.agg #[.slice A0_0 l0_0.length c0_0, .slice A0_1 l0_1.length c0_1, .slice A0_2 l0_2.length c0_2, .slice A0_3 l0_3.length c0_3, .int .i64 a0_4, .int .i64 a0_5, .int .i64 a0_6]] w fun e w' => e = .returned (.bool r) ∧ Below w.heap.size w w' := by
 have hu47 := Try.underlying47
 have hu26 := Try.underlying26
 have HR0_0 := Aside0.mk hr0_0
 have HC0_0 := Aside0.mk hc0_0
 clear hr0_0 hc0_0
 have HR0_1 := Aside0.mk hr0_1
 have HC0_1 := Aside0.mk hc0_1
 clear hr0_1 hc0_1
 have HR0_2 := Aside0.mk hr0_2
 have HC0_2 := Aside0.mk hc0_2
 clear hr0_2 hc0_2
 have HR0_3 := Aside0.mk hr0_3
 have HC0_3 := Aside0.mk hc0_3
 clear hr0_3 hc0_3
 have HB := aM (Below.refl w.heap.size w)
 have H : ((athanorlaw04_small.f l0_0 l0_1).bind fun t321 => (if t321 = true then ((athanorlaw04_small.f l0_2 l0_3).bind fun t322 => (athanorlaw04_TensorJoins.j0 k (!t322) l0_0 l0_1 l0_2 l0_3 a0_4 a0_5 a0_6)) else (athanorlaw04_TensorJoins.j0 k true l0_0 l0_1 l0_2 l0_3 a0_4 a0_5 a0_6))) = some r := h
 clear h
 have HC2 := Aside0.mk H
 clear H
 go_enter Try.func7, Try.ntmps7
 go_upto_region 1 with (first | ((with_reducible refine gate_dst (N := 1) rfl ?_); (try (refine gate_guard (by rfl) ?_; dsimp only)); refine box_event ?hg (N := 1) ?hd (cs := #[.slice A0_0 l0_0.length c0_0, .slice A0_1 l0_1.length c0_1, .slice A0_2 l0_2.length c0_2, .slice A0_3 l0_3.length c0_3, .int .i64 a0_4, .int .i64 a0_5, .int .i64 a0_6]) (t := 47) ?hr ?_; (case hd => rfl); (case hg => rfl); (case hr => first | (go_simp; done) | (go_simp; rfl)); intro gb320 hg w3 hbox hb; have n0_ := aM (below_step (by repeat (first | (with_reducible first|exact HB.out|apply bA|apply bN|apply bD)|exact HB.out)) hb); have n1_ := aM (hbox); have n2_ := aM ((by rw [hg]; exact (below_size (by repeat (first | (with_reducible first|exact HB.out|apply bA|apply bN|apply bD)|exact HB.out))) : w.heap.size ≤ gb320)); have n3_ := aM ((by rw [hg]; exact (below_size (by repeat (first | (with_reducible first|exact HB.out|apply bA|apply bN|apply bD)|exact HB.out))) : w.heap.size ≤ gb320)); clear HB; have HB := n0_; have BK320 := n1_; have GW320 := n2_; have GE320 := n3_; clear n0_ n1_ n2_ n3_; clear hb hbox hg))
 (try simp only [Act.put, List.setIfInBounds_toArray, List.set_cons_zero, List.set_cons_succ])
 go_cut [20] (fun v20 wc => ∃ (kq : Nat) (x20_1 : Bool), v20 = .bool x20_1 ∧ Aside0 (athanorlaw04_TensorJoins.j0 kq x20_1 l0_0 l0_1 l0_2 l0_3 a0_4 a0_5 a0_6 = some r) ∧ Aside0 (kq ≤ k) ∧ Aside0 (wc.heap[gb320]? = some (.cells #[(.slice A0_0 l0_0.length c0_0), (.slice A0_1 l0_1.length c0_1), (.slice A0_2 l0_2.length c0_2), (.slice A0_3 l0_3.length c0_3), .int .i64 a0_4, .int .i64 a0_5, .int .i64 a0_6] 47 (0, 0))) ∧ Aside0 (Below w.heap.size w wc))
 case first =>
  have H := HC2.out
  clear HC2
  replace H := Option.bind_eq_some_iff.mp H
  obtain ⟨t321, A40, H⟩ := H
  replace H : (if t321 = true then ((athanorlaw04_small.f l0_2 l0_3).bind fun t322 => (athanorlaw04_TensorJoins.j0 k (!t322) l0_0 l0_1 l0_2 l0_3 a0_4 a0_5 a0_6)) else (athanorlaw04_TensorJoins.j0 k true l0_0 l0_1 l0_2 l0_3 a0_4 a0_5 a0_6)) = some r := H
  have A4 := Aside0.mk A40
  clear A40
  by_cases c5 : t321 = true
  ·subst c5
   have H1 : ((athanorlaw04_small.f l0_2 l0_3).bind fun t322 => (athanorlaw04_TensorJoins.j0 k (!t322) l0_0 l0_1 l0_2 l0_3 a0_4 a0_5 a0_6)) = some r := by rw [if_pos rfl] at H; exact H
   clear H
   have H := H1
   clear H1
   replace H := Option.bind_eq_some_iff.mp H
   obtain ⟨t322, A60, H⟩ := H
   replace H : (athanorlaw04_TensorJoins.j0 k (!t322) l0_0 l0_1 l0_2 l0_3 a0_4 a0_5 a0_6) = some r := H
   have A6 := Aside0.mk A60
   clear A60
   as_aux_lemma =>
    have H' := Aside0.mk H
    clear H
    have hcz7_0 : w3.cell? ⟨gb320, 0, none⟩ = some (.slice A0_0 l0_0.length c0_0) := (blk_cell BK320.out 0).trans rfl
    have hcz7_1 : w3.cell? ⟨gb320, 1, none⟩ = some (.slice A0_1 l0_1.length c0_1) := (blk_cell BK320.out 1).trans rfl
    have hcz7_2 : w3.cell? ⟨gb320, 2, none⟩ = some (.slice A0_2 l0_2.length c0_2) := (blk_cell BK320.out 2).trans rfl
    have hcz7_3 : w3.cell? ⟨gb320, 3, none⟩ = some (.slice A0_3 l0_3.length c0_3) := (blk_cell BK320.out 3).trans rfl
    have hcz7_4 : w3.cell? ⟨gb320, 4, none⟩ = some (.int .i64 a0_4) := (blk_cell BK320.out 4).trans rfl
    have hcz7_5 : w3.cell? ⟨gb320, 5, none⟩ = some (.int .i64 a0_5) := (blk_cell BK320.out 5).trans rfl
    have hcz7_6 : w3.cell? ⟨gb320, 6, none⟩ = some (.int .i64 a0_6) := (blk_cell BK320.out 6).trans rfl
    have hfz7_0 := blk_frozen BK320.out 0
    have hfz7_1 := blk_frozen BK320.out 1
    have hfz7_2 := blk_frozen BK320.out 2
    have hfz7_3 := blk_frozen BK320.out 3
    have hfz7_4 := blk_frozen BK320.out 4
    have hfz7_5 := blk_frozen BK320.out 5
    have hfz7_6 := blk_frozen BK320.out 6
    go_wp2_with (first | ((with_reducible refine gate_callee (f := 8) rfl ?_); refine goesL_ (some 13) rfl rfl Try.func8 (by kernel_rfl) rfl #[.agg #[.slice A0_0 l0_0.length c0_0, .slice A0_1 l0_1.length c0_1]] rfl (by (try simp only [List.map_toArray, List.map_cons, List.map_nil]); first | done | rfl | (simp only [List.length_drop, List.length_take]; rfl)) ?_; (with_reducible refine (athanorlaw04_small.calls _ _ l0_0 _ _ l0_1 true _ ?side1 ?side2 ?side3 ?side4 A4.out).mono ?_); (case side1 => repeat (first|exact (Kd.C_below HR0_0.out HB.out) | with_reducible first|apply cA|apply cN|apply cD)); (case side2 => exact HC0_0.out); (case side3 => repeat (first|exact (Kd.C_below HR0_1.out HB.out) | with_reducible first|apply cA|apply cN|apply cD)); (case side4 => exact HC0_1.out); rintro e w8 ⟨rfl, hb⟩; refine ⟨_, rfl, ?_⟩; have n0_ := aM (blk_below (g := gb320) (o := .cells #[.slice A0_0 l0_0.length c0_0, .slice A0_1 l0_1.length c0_1, .slice A0_2 l0_2.length c0_2, .slice A0_3 l0_3.length c0_3, .int .i64 a0_4, .int .i64 a0_5, .int .i64 a0_6] 47 (0, 0)) (by (with_reducible repeat (first|apply kN|apply kD|apply kA)); exact BK320.out) hb); have n1_ := aM (below_step (by repeat (first | (with_reducible first|exact HB.out|apply bA|apply bN|apply bD|refine bS ?_ GE320.out)|exact HB.out)) hb); clear BK320; clear HB; have BK320 := n0_; have HB := n1_; clear n0_ n1_; (try clear hb); have hcz9_0 : w8.cell? ⟨gb320, 0, none⟩ = some (.slice A0_0 l0_0.length c0_0) := (blk_cell BK320.out 0).trans rfl; have hcz9_1 : w8.cell? ⟨gb320, 1, none⟩ = some (.slice A0_1 l0_1.length c0_1) := (blk_cell BK320.out 1).trans rfl; have hcz9_2 : w8.cell? ⟨gb320, 2, none⟩ = some (.slice A0_2 l0_2.length c0_2) := (blk_cell BK320.out 2).trans rfl; have hcz9_3 : w8.cell? ⟨gb320, 3, none⟩ = some (.slice A0_3 l0_3.length c0_3) := (blk_cell BK320.out 3).trans rfl; have hcz9_4 : w8.cell? ⟨gb320, 4, none⟩ = some (.int .i64 a0_4) := (blk_cell BK320.out 4).trans rfl; have hcz9_5 : w8.cell? ⟨gb320, 5, none⟩ = some (.int .i64 a0_5) := (blk_cell BK320.out 5).trans rfl; have hcz9_6 : w8.cell? ⟨gb320, 6, none⟩ = some (.int .i64 a0_6) := (blk_cell BK320.out 6).trans rfl; have hfz9_0 := blk_frozen BK320.out 0; have hfz9_1 := blk_frozen BK320.out 1; have hfz9_2 := blk_frozen BK320.out 2; have hfz9_3 := blk_frozen BK320.out 3; have hfz9_4 := blk_frozen BK320.out 4; have hfz9_5 := blk_frozen BK320.out 5; have hfz9_6 := blk_frozen BK320.out 6) | (go_at_call 8; (with_reducible refine (athanorlaw04_small.calls _ _ l0_2 _ _ l0_3 t322 _ ?side1 ?side2 ?side3 ?side4 A6.out).mono ?_); (case side1 => repeat (first|exact (Kd.C_below HR0_2.out HB.out) | with_reducible first|apply cA|apply cN|apply cD)); (case side2 => exact HC0_2.out); (case side3 => repeat (first|exact (Kd.C_below HR0_3.out HB.out) | with_reducible first|apply cA|apply cN|apply cD)); (case side4 => exact HC0_3.out); rintro e w10 ⟨rfl, hb⟩; have n0_ := aM (blk_below (g := gb320) (o := .cells #[.slice A0_0 l0_0.length c0_0, .slice A0_1 l0_1.length c0_1, .slice A0_2 l0_2.length c0_2, .slice A0_3 l0_3.length c0_3, .int .i64 a0_4, .int .i64 a0_5, .int .i64 a0_6] 47 (0, 0)) (by (with_reducible repeat (first|apply kN|apply kD|apply kA)); exact BK320.out) hb); have n1_ := aM (below_step (by repeat (first | (with_reducible first|exact HB.out|apply bA|apply bN|apply bD|refine bS ?_ GE320.out)|exact HB.out)) hb); clear BK320; clear HB; have BK320 := n0_; have HB := n1_; clear n0_ n1_; (try clear hb)))
    go_meet
    case rel => exact ⟨_, (!t322), (by first | rfl | (simp; done) | (simp [*]; done)), H', ⟨by first | omega|exact Nat.le_refl _⟩, ⟨by (with_reducible repeat (first|apply kN|apply kD|apply kA)); exact BK320.out⟩, ⟨by repeat (first | (with_reducible first|exact HB.out|apply bA|apply bN|apply bD|refine bS ?_ GE320.out)|exact HB.out)⟩⟩
  ·replace c5 := Bool.eq_false_iff.mpr c5
   subst c5
   have H1 : (athanorlaw04_TensorJoins.j0 k true l0_0 l0_1 l0_2 l0_3 a0_4 a0_5 a0_6) = some r := by rw [if_neg (show ¬ (false = true) by decide)] at H; exact H
   clear H
   have H := H1
   clear H1
   as_aux_lemma =>
    have H' := Aside0.mk H
    clear H
    have hcz11_0 : w3.cell? ⟨gb320, 0, none⟩ = some (.slice A0_0 l0_0.length c0_0) := (blk_cell BK320.out 0).trans rfl
    have hcz11_1 : w3.cell? ⟨gb320, 1, none⟩ = some (.slice A0_1 l0_1.length c0_1) := (blk_cell BK320.out 1).trans rfl
    have hcz11_2 : w3.cell? ⟨gb320, 2, none⟩ = some (.slice A0_2 l0_2.length c0_2) := (blk_cell BK320.out 2).trans rfl
    have hcz11_3 : w3.cell? ⟨gb320, 3, none⟩ = some (.slice A0_3 l0_3.length c0_3) := (blk_cell BK320.out 3).trans rfl
    have hcz11_4 : w3.cell? ⟨gb320, 4, none⟩ = some (.int .i64 a0_4) := (blk_cell BK320.out 4).trans rfl
    have hcz11_5 : w3.cell? ⟨gb320, 5, none⟩ = some (.int .i64 a0_5) := (blk_cell BK320.out 5).trans rfl
    have hcz11_6 : w3.cell? ⟨gb320, 6, none⟩ = some (.int .i64 a0_6) := (blk_cell BK320.out 6).trans rfl
    have hfz11_0 := blk_frozen BK320.out 0
    have hfz11_1 := blk_frozen BK320.out 1
    have hfz11_2 := blk_frozen BK320.out 2
    have hfz11_3 := blk_frozen BK320.out 3
    have hfz11_4 := blk_frozen BK320.out 4
    have hfz11_5 := blk_frozen BK320.out 5
    have hfz11_6 := blk_frozen BK320.out 6
    go_wp2_with (first | ((with_reducible refine gate_callee (f := 8) rfl ?_); refine goesL_ (some 13) rfl rfl Try.func8 (by kernel_rfl) rfl #[.agg #[.slice A0_0 l0_0.length c0_0, .slice A0_1 l0_1.length c0_1]] rfl (by (try simp only [List.map_toArray, List.map_cons, List.map_nil]); first | done | rfl | (simp only [List.length_drop, List.length_take]; rfl)) ?_; (with_reducible refine (athanorlaw04_small.calls _ _ l0_0 _ _ l0_1 false _ ?side1 ?side2 ?side3 ?side4 A4.out).mono ?_); (case side1 => repeat (first|exact (Kd.C_below HR0_0.out HB.out) | with_reducible first|apply cA|apply cN|apply cD)); (case side2 => exact HC0_0.out); (case side3 => repeat (first|exact (Kd.C_below HR0_1.out HB.out) | with_reducible first|apply cA|apply cN|apply cD)); (case side4 => exact HC0_1.out); rintro e w12 ⟨rfl, hb⟩; refine ⟨_, rfl, ?_⟩; have n0_ := aM (blk_below (g := gb320) (o := .cells #[.slice A0_0 l0_0.length c0_0, .slice A0_1 l0_1.length c0_1, .slice A0_2 l0_2.length c0_2, .slice A0_3 l0_3.length c0_3, .int .i64 a0_4, .int .i64 a0_5, .int .i64 a0_6] 47 (0, 0)) (by (with_reducible repeat (first|apply kN|apply kD|apply kA)); exact BK320.out) hb); have n1_ := aM (below_step (by repeat (first | (with_reducible first|exact HB.out|apply bA|apply bN|apply bD|refine bS ?_ GE320.out)|exact HB.out)) hb); clear BK320; clear HB; have BK320 := n0_; have HB := n1_; clear n0_ n1_; (try clear hb)))
    go_meet
    case rel => exact ⟨_, (true), (by first | rfl | (simp; done) | (simp [*]; done)), H', ⟨by first | omega|exact Nat.le_refl _⟩, ⟨by (with_reducible repeat (first|apply kN|apply kD|apply kA)); exact BK320.out⟩, ⟨by repeat (first | (with_reducible first|exact HB.out|apply bA|apply bN|apply bD|refine bS ?_ GE320.out)|exact HB.out)⟩⟩
 case rest =>
  clear HC2
  (try clear c5); (try clear hcz11_0); (try clear hcz11_1); (try clear hcz11_2); (try clear hcz11_3); (try clear hcz11_4); (try clear hcz11_5); (try clear hcz11_6); (try clear hcz7_0); (try clear hcz7_1); (try clear hcz7_2); (try clear hcz7_3); (try clear hcz7_4); (try clear hcz7_5); (try clear hcz7_6); (try clear hcz9_0); (try clear hcz9_1); (try clear hcz9_2); (try clear hcz9_3); (try clear hcz9_4); (try clear hcz9_5); (try clear hcz9_6); (try clear hfz11_0); (try clear hfz11_1); (try clear hfz11_2); (try clear hfz11_3); (try clear hfz11_4); (try clear hfz11_5); (try clear hfz11_6); (try clear hfz7_0); (try clear hfz7_1); (try clear hfz7_2); (try clear hfz7_3); (try clear hfz7_4); (try clear hfz7_5); (try clear hfz7_6); (try clear hfz9_0); (try clear hfz9_1); (try clear hfz9_2); (try clear hfz9_3); (try clear hfz9_4); (try clear hfz9_5); (try clear hfz9_6)
  obtain ⟨kq, x20_1, rfl, HA, HJ1, BK320, HB⟩ := hcut
  cases kq with
  | zero => exact absurd HA.out (by simp [athanorlaw04_TensorJoins.j0])
  | succ kj1 =>
   have H := HA.out
   clear HA
   simp only [athanorlaw04_TensorJoins.j0] at H
   by_cases c13 : x20_1 = true
   ·subst c13
    have H1 : ((athanorlaw04_awake.f kj1).bind fun t323 => (some t323)) = some r := by rw [if_pos rfl] at H; exact H
    clear H
    have H := H1
    clear H1
    replace H := Option.bind_eq_some_iff.mp H
    obtain ⟨t323, A140, H⟩ := H
    replace H : (some t323) = some r := H
    have A14 := Aside0.mk A140
    clear A140
    as_aux_lemma =>
     obtain rfl := Option.some.inj H
     go_wp2_with (first | ((with_reducible refine gate_callee (f := 9) rfl ?_); refine goesL_ (some 21) rfl rfl Try.func9 (by kernel_rfl) rfl #[] rfl (by (try simp only [List.map_toArray, List.map_cons, List.map_nil]); first | done | rfl | (simp only [List.length_drop, List.length_take]; rfl)) ?_; (with_reducible refine (athanorlaw04_awake.calls kj1  t323 _ A14.out).mono ?_); rintro e w15 ⟨rfl, hb⟩; refine ⟨_, rfl, ?_⟩; have n0_ := aM (blk_below (g := gb320) (o := .cells #[.slice A0_0 l0_0.length c0_0, .slice A0_1 l0_1.length c0_1, .slice A0_2 l0_2.length c0_2, .slice A0_3 l0_3.length c0_3, .int .i64 a0_4, .int .i64 a0_5, .int .i64 a0_6] 47 (0, 0)) (by (with_reducible repeat (first|apply kN|apply kD|apply kA)); exact BK320.out) hb); have n1_ := aM (below_step (by repeat (first | (with_reducible first|exact HB.out|apply bA|apply bN|apply bD|refine bS ?_ GE320.out)|exact HB.out)) hb); clear BK320; clear HB; have BK320 := n0_; have HB := n1_; clear n0_ n1_; (try clear hb)))
     go_ret
     exact ⟨by first | rfl | (simp [errW_none, errW_some] <;> rfl) | (simp [*, errW_none, errW_some] <;> rfl), by repeat (first | (with_reducible first|exact HB.out|apply bA|apply bN|apply bD|refine bS ?_ GE320.out)|exact HB.out)⟩
   ·replace c13 := Bool.eq_false_iff.mpr c13
    subst c13
    have H1 : ((tensor_Join_fix_F.f l0_0 l0_1 l0_2 l0_3 a0_4).bind fun bt324 => ((athanorlaw04_right.f kj1 l0_0 l0_1).bind fun t332 => (if t332 = true then ((athanorlaw04_right.f kj1 l0_2 l0_3).bind fun t333 => (athanorlaw04_TensorJoins.j1 kj1 bt324.2.2 (!t333) l0_0 l0_1 l0_2 l0_3 a0_4 a0_5 a0_6 bt324.1 bt324.2.1)) else (athanorlaw04_TensorJoins.j1 kj1 bt324.2.2 true l0_0 l0_1 l0_2 l0_3 a0_4 a0_5 a0_6 bt324.1 bt324.2.1)))) = some r := by rw [if_neg (show ¬ (false = true) by decide)] at H; exact H
    clear H
    have H := H1
    clear H1
    replace H := Option.bind_eq_some_iff.mp H
    obtain ⟨⟨t324, t327, t330⟩, A160, H⟩ := H
    replace H : ((athanorlaw04_right.f kj1 l0_0 l0_1).bind fun t332 => (if t332 = true then ((athanorlaw04_right.f kj1 l0_2 l0_3).bind fun t333 => (athanorlaw04_TensorJoins.j1 kj1 t330 (!t333) l0_0 l0_1 l0_2 l0_3 a0_4 a0_5 a0_6 t324 t327)) else (athanorlaw04_TensorJoins.j1 kj1 t330 true l0_0 l0_1 l0_2 l0_3 a0_4 a0_5 a0_6 t324 t327))) = some r := H
    have A16 := Aside0.mk A160
    clear A160
    have HC17 := Aside0.mk H
    clear H
    have hcz18_0 : wc.cell? ⟨gb320, 0, none⟩ = some (.slice A0_0 l0_0.length c0_0) := (blk_cell BK320.out 0).trans rfl
    have hcz18_1 : wc.cell? ⟨gb320, 1, none⟩ = some (.slice A0_1 l0_1.length c0_1) := (blk_cell BK320.out 1).trans rfl
    have hcz18_2 : wc.cell? ⟨gb320, 2, none⟩ = some (.slice A0_2 l0_2.length c0_2) := (blk_cell BK320.out 2).trans rfl
    have hcz18_3 : wc.cell? ⟨gb320, 3, none⟩ = some (.slice A0_3 l0_3.length c0_3) := (blk_cell BK320.out 3).trans rfl
    have hcz18_4 : wc.cell? ⟨gb320, 4, none⟩ = some (.int .i64 a0_4) := (blk_cell BK320.out 4).trans rfl
    have hcz18_5 : wc.cell? ⟨gb320, 5, none⟩ = some (.int .i64 a0_5) := (blk_cell BK320.out 5).trans rfl
    have hcz18_6 : wc.cell? ⟨gb320, 6, none⟩ = some (.int .i64 a0_6) := (blk_cell BK320.out 6).trans rfl
    have hfz18_0 := blk_frozen BK320.out 0
    have hfz18_1 := blk_frozen BK320.out 1
    have hfz18_2 := blk_frozen BK320.out 2
    have hfz18_3 := blk_frozen BK320.out 3
    have hfz18_4 := blk_frozen BK320.out 4
    have hfz18_5 := blk_frozen BK320.out 5
    have hfz18_6 := blk_frozen BK320.out 6
    go_upto_region 4 with (first | ((with_reducible refine gate_callee (f := 33) rfl ?_); refine goesL_ (some 29) rfl rfl Try.func33 (by kernel_rfl) rfl #[.agg #[.slice A0_0 l0_0.length c0_0, .slice A0_1 l0_1.length c0_1], .agg #[.slice A0_2 l0_2.length c0_2, .slice A0_3 l0_3.length c0_3], .int .i64 a0_4] rfl (by (try simp only [List.map_toArray, List.map_cons, List.map_nil]); first | done | rfl | (simp only [List.length_drop, List.length_take]; rfl)) ?_; (with_reducible refine (tensor_Join_fix_F.calls _ _ l0_0 _ _ l0_1 _ _ l0_2 _ _ l0_3 a0_4 t324 t327 t330 _ ?side1 ?side2 ?side3 ?side4 ?side5 ?side6 ?side7 ?side8 A16.out).mono ?_); (case side1 => repeat (first|exact (Kd.C_below HR0_0.out HB.out) | with_reducible first|apply cA|apply cN|apply cD)); (case side2 => exact HC0_0.out); (case side3 => repeat (first|exact (Kd.C_below HR0_1.out HB.out) | with_reducible first|apply cA|apply cN|apply cD)); (case side4 => exact HC0_1.out); (case side5 => repeat (first|exact (Kd.C_below HR0_2.out HB.out) | with_reducible first|apply cA|apply cN|apply cD)); (case side6 => exact HC0_2.out); (case side7 => repeat (first|exact (Kd.C_below HR0_3.out HB.out) | with_reducible first|apply cA|apply cN|apply cD)); (case side8 => exact HC0_3.out); rintro e w19 ⟨v325, v328, rfl, ho0, ho1, hb⟩; refine ⟨_, rfl, ?_⟩; have n0_ := aM (Kd.R_lower ho0 (below_size (by repeat (first | (with_reducible first|exact HB.out|apply bA|apply bN|apply bD|refine bS ?_ GE320.out)|exact HB.out)))); have n1_ := aM (Kd.R_lower ho1 (below_size (by repeat (first | (with_reducible first|exact HB.out|apply bA|apply bN|apply bD|refine bS ?_ GE320.out)|exact HB.out)))); have n2_ := aM (blk_below (g := gb320) (o := .cells #[.slice A0_0 l0_0.length c0_0, .slice A0_1 l0_1.length c0_1, .slice A0_2 l0_2.length c0_2, .slice A0_3 l0_3.length c0_3, .int .i64 a0_4, .int .i64 a0_5, .int .i64 a0_6] 47 (0, 0)) (by (with_reducible repeat (first|apply kN|apply kD|apply kA)); exact BK320.out) hb); have n3_ := aM (below_step (by repeat (first | (with_reducible first|exact HB.out|apply bA|apply bN|apply bD|refine bS ?_ GE320.out)|exact HB.out)) hb); clear BK320; clear HB; have HO326 := n0_; have HO329 := n1_; have BK320 := n2_; have HB := n3_; clear n0_ n1_ n2_ n3_; (try clear hb); (try clear ho0); (try clear ho1)) | ((with_reducible refine gate_dst (N := 3) rfl ?_); (try (refine gate_guard (by rfl) ?_; dsimp only)); refine box_event ?hg (N := 3) ?hd (cs := #[.slice none 0 0, .slice none 0 0]) (t := 26) ?hr ?_; (case hd => rfl); (case hg => rfl); (case hr => first | (go_simp; done) | (go_simp; rfl)); intro gb331 hg w20 hbox hb; have n0_ := aM (Kd.R_below (by (with_reducible repeat (first|apply rA|apply rN|apply rD)); exact HO326.out) hb); have n1_ := aM (Kd.R_below (by (with_reducible repeat (first|apply rA|apply rN|apply rD)); exact HO329.out) hb); have n2_ := aM (blk_below (g := gb320) (o := .cells #[.slice A0_0 l0_0.length c0_0, .slice A0_1 l0_1.length c0_1, .slice A0_2 l0_2.length c0_2, .slice A0_3 l0_3.length c0_3, .int .i64 a0_4, .int .i64 a0_5, .int .i64 a0_6] 47 (0, 0)) (by (with_reducible repeat (first|apply kN|apply kD|apply kA)); exact BK320.out) hb); have n3_ := aM (below_step (by repeat (first | (with_reducible first|exact HB.out|apply bA|apply bN|apply bD|refine bS ?_ GE320.out)|exact HB.out)) hb); have n4_ := aM (hbox); have n5_ := aM ((by rw [hg]; exact (below_size (by repeat (first | (with_reducible first|exact HB.out|apply bA|apply bN|apply bD|refine bS ?_ GE320.out)|exact HB.out))) : w.heap.size ≤ gb331)); have n6_ := aM ((by rw [hg]; exact (below_size (by repeat (first | (with_reducible first|exact HB.out|apply bA|apply bN|apply bD|refine bS ?_ GE320.out)|exact HB.out))) : w.heap.size ≤ gb331)); have n7_ := aM ((by rw [hg]; exact Nat.ne_of_lt (blk_lt (g := gb320) (o := .cells #[.slice A0_0 l0_0.length c0_0, .slice A0_1 l0_1.length c0_1, .slice A0_2 l0_2.length c0_2, .slice A0_3 l0_3.length c0_3, .int .i64 a0_4, .int .i64 a0_5, .int .i64 a0_6] 47 (0, 0)) (by (with_reducible repeat (first|apply kN|apply kD|apply kA)); exact BK320.out)) : gb320 ≠ gb331)); have n8_ := aM ((by rw [hg]; exact Nat.ne_of_gt (blk_lt (g := gb320) (o := .cells #[.slice A0_0 l0_0.length c0_0, .slice A0_1 l0_1.length c0_1, .slice A0_2 l0_2.length c0_2, .slice A0_3 l0_3.length c0_3, .int .i64 a0_4, .int .i64 a0_5, .int .i64 a0_6] 47 (0, 0)) (by (with_reducible repeat (first|apply kN|apply kD|apply kA)); exact BK320.out)) : gb331 ≠ gb320)); clear HO326; clear HO329; clear BK320; clear HB; have HO326 := n0_; have HO329 := n1_; have BK320 := n2_; have HB := n3_; have BK331 := n4_; have GW331 := n5_; have GE331 := n6_; have NB320_331 := n7_; have NB331_320 := n8_; clear n0_ n1_ n2_ n3_ n4_ n5_ n6_ n7_ n8_; clear hb hbox hg; obtain ⟨Ao21, co21, eo21⟩ := Kd.R_slice HO326.out; subst eo21; have hnb22 := NB331_320.out; have hnc22 := NB320_331.out; have hcz23_0 : w20.cell? ⟨gb331, 0, none⟩ = some (.slice none 0 0) := (blk_cell BK331.out 0).trans rfl; have hcz23_1 : w20.cell? ⟨gb331, 1, none⟩ = some (.slice none 0 0) := (blk_cell BK331.out 1).trans rfl; have hfz23_0 := blk_frozen BK331.out 0; have hfz23_1 := blk_frozen BK331.out 1; obtain ⟨Ao24, co24, eo24⟩ := Kd.R_slice HO329.out; subst eo24))
    (try simp only [Act.put, List.setIfInBounds_toArray, List.set_cons_zero, List.set_cons_succ])
    go_cut [41] (fun v41 wc => ∃ (kq : Nat) (x41_16 : Bool), v41 = .bool x41_16 ∧ Aside0 (athanorlaw04_TensorJoins.j1 kq t330 x41_16 l0_0 l0_1 l0_2 l0_3 a0_4 a0_5 a0_6 t324 t327 = some r) ∧ Aside0 (kq ≤ kj1) ∧ Aside0 (Kd.R (Kd.int .i64) 3 wc w.heap.size (fun _ => True) (.slice Ao21 t324.length co21) t324) ∧ Aside0 (Kd.R (Kd.int .i64) 27 wc w.heap.size (fun _ => True) (.slice Ao24 t327.length co24) t327) ∧ Aside0 (wc.heap[gb320]? = some (.cells #[(.slice A0_0 l0_0.length c0_0), (.slice A0_1 l0_1.length c0_1), (.slice A0_2 l0_2.length c0_2), (.slice A0_3 l0_3.length c0_3), .int .i64 a0_4, .int .i64 a0_5, .int .i64 a0_6] 47 (0, 0))) ∧ Aside0 (wc.heap[gb331]? = some (.cells #[(.slice Ao21 t324.length co21), (.slice Ao24 t327.length co24)] 26 (0, 0))) ∧ Aside0 (Below w.heap.size w wc))
    case first =>
     have H := HC17.out
     clear HC17
     replace H := Option.bind_eq_some_iff.mp H
     obtain ⟨t332, A250, H⟩ := H
     replace H : (if t332 = true then ((athanorlaw04_right.f kj1 l0_2 l0_3).bind fun t333 => (athanorlaw04_TensorJoins.j1 kj1 t330 (!t333) l0_0 l0_1 l0_2 l0_3 a0_4 a0_5 a0_6 t324 t327)) else (athanorlaw04_TensorJoins.j1 kj1 t330 true l0_0 l0_1 l0_2 l0_3 a0_4 a0_5 a0_6 t324 t327)) = some r := H
     have A25 := Aside0.mk A250
     clear A250
     by_cases c26 : t332 = true
     ·subst c26
      have H1 : ((athanorlaw04_right.f kj1 l0_2 l0_3).bind fun t333 => (athanorlaw04_TensorJoins.j1 kj1 t330 (!t333) l0_0 l0_1 l0_2 l0_3 a0_4 a0_5 a0_6 t324 t327)) = some r := by rw [if_pos rfl] at H; exact H
      clear H
      have H := H1
      clear H1
      replace H := Option.bind_eq_some_iff.mp H
      obtain ⟨t333, A270, H⟩ := H
      replace H : (athanorlaw04_TensorJoins.j1 kj1 t330 (!t333) l0_0 l0_1 l0_2 l0_3 a0_4 a0_5 a0_6 t324 t327) = some r := H
      have A27 := Aside0.mk A270
      clear A270
      as_aux_lemma =>
       have H' := Aside0.mk H
       clear H
       have hnb28 := NB320_331.out
       have hnc28 := NB331_320.out
       have hcz29_0 : w20.cell? ⟨gb320, 0, none⟩ = some (.slice A0_0 l0_0.length c0_0) := (blk_cell BK320.out 0).trans rfl
       have hcz29_1 : w20.cell? ⟨gb320, 1, none⟩ = some (.slice A0_1 l0_1.length c0_1) := (blk_cell BK320.out 1).trans rfl
       have hcz29_2 : w20.cell? ⟨gb320, 2, none⟩ = some (.slice A0_2 l0_2.length c0_2) := (blk_cell BK320.out 2).trans rfl
       have hcz29_3 : w20.cell? ⟨gb320, 3, none⟩ = some (.slice A0_3 l0_3.length c0_3) := (blk_cell BK320.out 3).trans rfl
       have hcz29_4 : w20.cell? ⟨gb320, 4, none⟩ = some (.int .i64 a0_4) := (blk_cell BK320.out 4).trans rfl
       have hcz29_5 : w20.cell? ⟨gb320, 5, none⟩ = some (.int .i64 a0_5) := (blk_cell BK320.out 5).trans rfl
       have hcz29_6 : w20.cell? ⟨gb320, 6, none⟩ = some (.int .i64 a0_6) := (blk_cell BK320.out 6).trans rfl
       have hfz29_0 := blk_frozen BK320.out 0
       have hfz29_1 := blk_frozen BK320.out 1
       have hfz29_2 := blk_frozen BK320.out 2
       have hfz29_3 := blk_frozen BK320.out 3
       have hfz29_4 := blk_frozen BK320.out 4
       have hfz29_5 := blk_frozen BK320.out 5
       have hfz29_6 := blk_frozen BK320.out 6
       go_wp2_with (first | ((with_reducible refine gate_callee (f := 14) rfl ?_); refine goesL_ (some 34) rfl rfl Try.func14 (by kernel_rfl) rfl #[.agg #[.slice A0_0 l0_0.length c0_0, .slice A0_1 l0_1.length c0_1]] rfl (by (try simp only [List.map_toArray, List.map_cons, List.map_nil]); first | done | rfl | (simp only [List.length_drop, List.length_take]; rfl)) ?_; (with_reducible refine (athanorlaw04_right.calls kj1 _ _ l0_0 _ _ l0_1 true _ ?side1 ?side2 ?side3 ?side4 A25.out).mono ?_); (case side1 => exact Kd.C_below HR0_0.out (by repeat (first | (with_reducible first|exact HB.out|apply bA|apply bN|apply bD|refine bS ?_ GE320.out|refine bS ?_ GE331.out)|exact HB.out))); (case side2 => exact HC0_0.out); (case side3 => exact Kd.C_below HR0_1.out (by repeat (first | (with_reducible first|exact HB.out|apply bA|apply bN|apply bD|refine bS ?_ GE320.out|refine bS ?_ GE331.out)|exact HB.out))); (case side4 => exact HC0_1.out); rintro e w30 ⟨rfl, hb⟩; refine ⟨_, rfl, ?_⟩; have n0_ := aM (Kd.R_below (by (with_reducible repeat (first|apply rA|apply rN|apply rD)); exact (Kd.R_mono (Kd.R_far (p := ⟨gb331, 1, none⟩) (Kd.R_far (p := ⟨gb331, 0, none⟩) (Kd.R_types HO326.out BK331.out (by decide)) (fun _ hk => hk.2) (.slice Ao21 t324.length co21)) (fun _ hk => hk.2) (.slice Ao24 t327.length co24)) (fun _ h_ => h_.1))) hb); have n1_ := aM (Kd.R_below (by (with_reducible repeat (first|apply rA|apply rN|apply rD)); exact (Kd.R_mono (Kd.R_far (p := ⟨gb331, 1, none⟩) (Kd.R_far (p := ⟨gb331, 0, none⟩) (Kd.R_types HO329.out BK331.out (by decide)) (fun _ hk => hk.2) (.slice Ao21 t324.length co21)) (fun _ hk => hk.2) (.slice Ao24 t327.length co24)) (fun _ h_ => h_.1))) hb); have n2_ := aM (blk_below (g := gb320) (o := .cells #[.slice A0_0 l0_0.length c0_0, .slice A0_1 l0_1.length c0_1, .slice A0_2 l0_2.length c0_2, .slice A0_3 l0_3.length c0_3, .int .i64 a0_4, .int .i64 a0_5, .int .i64 a0_6] 47 (0, 0)) (by (with_reducible repeat (first|apply kN|apply kD|apply kA)); refine blk_far ?_ NB320_331.out _; (with_reducible repeat (first|apply kN|apply kD|apply kA)); refine blk_far ?_ NB320_331.out _; (with_reducible repeat (first|apply kN|apply kD|apply kA)); exact BK320.out) hb); have n3_ := aM (blk_below (g := gb331) (o := .cells #[.slice Ao21 t324.length co21, .slice Ao24 t327.length co24] 26 (0, 0)) (by (with_reducible repeat (first|apply kN|apply kD|apply kA)); refine blk_put (cs := #[.slice Ao21 t324.length co21, .slice none 0 0]) ?_ 1 _ rfl; (with_reducible repeat (first|apply kN|apply kD|apply kA)); refine blk_put (cs := #[.slice none 0 0, .slice none 0 0]) ?_ 0 _ rfl; (with_reducible repeat (first|apply kN|apply kD|apply kA)); exact BK331.out) hb); have n4_ := aM (below_step (by repeat (first | (with_reducible first|exact HB.out|apply bA|apply bN|apply bD|refine bS ?_ GE320.out|refine bS ?_ GE331.out)|exact HB.out)) hb); clear HO326; clear HO329; clear BK320; clear BK331; clear HB; have HO326 := n0_; have HO329 := n1_; have BK320 := n2_; have BK331 := n3_; have HB := n4_; clear n0_ n1_ n2_ n3_ n4_; (try clear hb); (try clear hk); have hcz31_0 : w30.cell? ⟨gb320, 0, none⟩ = some (.slice A0_0 l0_0.length c0_0) := (blk_cell BK320.out 0).trans rfl; have hcz31_1 : w30.cell? ⟨gb320, 1, none⟩ = some (.slice A0_1 l0_1.length c0_1) := (blk_cell BK320.out 1).trans rfl; have hcz31_2 : w30.cell? ⟨gb320, 2, none⟩ = some (.slice A0_2 l0_2.length c0_2) := (blk_cell BK320.out 2).trans rfl; have hcz31_3 : w30.cell? ⟨gb320, 3, none⟩ = some (.slice A0_3 l0_3.length c0_3) := (blk_cell BK320.out 3).trans rfl; have hcz31_4 : w30.cell? ⟨gb320, 4, none⟩ = some (.int .i64 a0_4) := (blk_cell BK320.out 4).trans rfl; have hcz31_5 : w30.cell? ⟨gb320, 5, none⟩ = some (.int .i64 a0_5) := (blk_cell BK320.out 5).trans rfl; have hcz31_6 : w30.cell? ⟨gb320, 6, none⟩ = some (.int .i64 a0_6) := (blk_cell BK320.out 6).trans rfl; have hfz31_0 := blk_frozen BK320.out 0; have hfz31_1 := blk_frozen BK320.out 1; have hfz31_2 := blk_frozen BK320.out 2; have hfz31_3 := blk_frozen BK320.out 3; have hfz31_4 := blk_frozen BK320.out 4; have hfz31_5 := blk_frozen BK320.out 5; have hfz31_6 := blk_frozen BK320.out 6) | (go_at_call 14; (with_reducible refine (athanorlaw04_right.calls kj1 _ _ l0_2 _ _ l0_3 t333 _ ?side1 ?side2 ?side3 ?side4 A27.out).mono ?_); (case side1 => repeat (first|exact (Kd.C_below HR0_2.out HB.out) | with_reducible first|apply cA|apply cN|apply cD)); (case side2 => exact HC0_2.out); (case side3 => repeat (first|exact (Kd.C_below HR0_3.out HB.out) | with_reducible first|apply cA|apply cN|apply cD)); (case side4 => exact HC0_3.out); rintro e w32 ⟨rfl, hb⟩; have n0_ := aM (Kd.R_below (by (with_reducible repeat (first|apply rA|apply rN|apply rD)); exact HO326.out) hb); have n1_ := aM (Kd.R_below (by (with_reducible repeat (first|apply rA|apply rN|apply rD)); exact HO329.out) hb); have n2_ := aM (blk_below (g := gb320) (o := .cells #[.slice A0_0 l0_0.length c0_0, .slice A0_1 l0_1.length c0_1, .slice A0_2 l0_2.length c0_2, .slice A0_3 l0_3.length c0_3, .int .i64 a0_4, .int .i64 a0_5, .int .i64 a0_6] 47 (0, 0)) (by (with_reducible repeat (first|apply kN|apply kD|apply kA)); exact BK320.out) hb); have n3_ := aM (blk_below (g := gb331) (o := .cells #[.slice Ao21 t324.length co21, .slice Ao24 t327.length co24] 26 (0, 0)) (by (with_reducible repeat (first|apply kN|apply kD|apply kA)); exact BK331.out) hb); have n4_ := aM (below_step (by repeat (first | (with_reducible first|exact HB.out|apply bA|apply bN|apply bD|refine bS ?_ GE320.out|refine bS ?_ GE331.out)|exact HB.out)) hb); clear HO326; clear HO329; clear BK320; clear BK331; clear HB; have HO326 := n0_; have HO329 := n1_; have BK320 := n2_; have BK331 := n3_; have HB := n4_; clear n0_ n1_ n2_ n3_ n4_; (try clear hb); (try clear hk)))
       go_meet
       case rel => exact ⟨_, (!t333), (by first | rfl | (simp; done) | (simp [*]; done)), H', ⟨by have := HJ1.out; first | omega|exact Nat.le_refl _⟩, ⟨by (with_reducible repeat (first|apply rA|apply rN|apply rD)); exact HO326.out⟩, ⟨by (with_reducible repeat (first|apply rA|apply rN|apply rD)); exact HO329.out⟩, ⟨by (with_reducible repeat (first|apply kN|apply kD|apply kA)); exact BK320.out⟩, ⟨by (with_reducible repeat (first|apply kN|apply kD|apply kA)); exact BK331.out⟩, ⟨by repeat (first | (with_reducible first|exact HB.out|apply bA|apply bN|apply bD|refine bS ?_ GE320.out|refine bS ?_ GE331.out)|exact HB.out)⟩⟩
     ·replace c26 := Bool.eq_false_iff.mpr c26
      subst c26
      have H1 : (athanorlaw04_TensorJoins.j1 kj1 t330 true l0_0 l0_1 l0_2 l0_3 a0_4 a0_5 a0_6 t324 t327) = some r := by rw [if_neg (show ¬ (false = true) by decide)] at H; exact H
      clear H
      have H := H1
      clear H1
      as_aux_lemma =>
       have H' := Aside0.mk H
       clear H
       have hnb33 := NB320_331.out
       have hnc33 := NB331_320.out
       have hcz34_0 : w20.cell? ⟨gb320, 0, none⟩ = some (.slice A0_0 l0_0.length c0_0) := (blk_cell BK320.out 0).trans rfl
       have hcz34_1 : w20.cell? ⟨gb320, 1, none⟩ = some (.slice A0_1 l0_1.length c0_1) := (blk_cell BK320.out 1).trans rfl
       have hcz34_2 : w20.cell? ⟨gb320, 2, none⟩ = some (.slice A0_2 l0_2.length c0_2) := (blk_cell BK320.out 2).trans rfl
       have hcz34_3 : w20.cell? ⟨gb320, 3, none⟩ = some (.slice A0_3 l0_3.length c0_3) := (blk_cell BK320.out 3).trans rfl
       have hcz34_4 : w20.cell? ⟨gb320, 4, none⟩ = some (.int .i64 a0_4) := (blk_cell BK320.out 4).trans rfl
       have hcz34_5 : w20.cell? ⟨gb320, 5, none⟩ = some (.int .i64 a0_5) := (blk_cell BK320.out 5).trans rfl
       have hcz34_6 : w20.cell? ⟨gb320, 6, none⟩ = some (.int .i64 a0_6) := (blk_cell BK320.out 6).trans rfl
       have hfz34_0 := blk_frozen BK320.out 0
       have hfz34_1 := blk_frozen BK320.out 1
       have hfz34_2 := blk_frozen BK320.out 2
       have hfz34_3 := blk_frozen BK320.out 3
       have hfz34_4 := blk_frozen BK320.out 4
       have hfz34_5 := blk_frozen BK320.out 5
       have hfz34_6 := blk_frozen BK320.out 6
       go_wp2_with (first | ((with_reducible refine gate_callee (f := 14) rfl ?_); refine goesL_ (some 34) rfl rfl Try.func14 (by kernel_rfl) rfl #[.agg #[.slice A0_0 l0_0.length c0_0, .slice A0_1 l0_1.length c0_1]] rfl (by (try simp only [List.map_toArray, List.map_cons, List.map_nil]); first | done | rfl | (simp only [List.length_drop, List.length_take]; rfl)) ?_; (with_reducible refine (athanorlaw04_right.calls kj1 _ _ l0_0 _ _ l0_1 false _ ?side1 ?side2 ?side3 ?side4 A25.out).mono ?_); (case side1 => exact Kd.C_below HR0_0.out (by repeat (first | (with_reducible first|exact HB.out|apply bA|apply bN|apply bD|refine bS ?_ GE320.out|refine bS ?_ GE331.out)|exact HB.out))); (case side2 => exact HC0_0.out); (case side3 => exact Kd.C_below HR0_1.out (by repeat (first | (with_reducible first|exact HB.out|apply bA|apply bN|apply bD|refine bS ?_ GE320.out|refine bS ?_ GE331.out)|exact HB.out))); (case side4 => exact HC0_1.out); rintro e w35 ⟨rfl, hb⟩; refine ⟨_, rfl, ?_⟩; have n0_ := aM (Kd.R_below (by (with_reducible repeat (first|apply rA|apply rN|apply rD)); exact (Kd.R_mono (Kd.R_far (p := ⟨gb331, 1, none⟩) (Kd.R_far (p := ⟨gb331, 0, none⟩) (Kd.R_types HO326.out BK331.out (by decide)) (fun _ hk => hk.2) (.slice Ao21 t324.length co21)) (fun _ hk => hk.2) (.slice Ao24 t327.length co24)) (fun _ h_ => h_.1))) hb); have n1_ := aM (Kd.R_below (by (with_reducible repeat (first|apply rA|apply rN|apply rD)); exact (Kd.R_mono (Kd.R_far (p := ⟨gb331, 1, none⟩) (Kd.R_far (p := ⟨gb331, 0, none⟩) (Kd.R_types HO329.out BK331.out (by decide)) (fun _ hk => hk.2) (.slice Ao21 t324.length co21)) (fun _ hk => hk.2) (.slice Ao24 t327.length co24)) (fun _ h_ => h_.1))) hb); have n2_ := aM (blk_below (g := gb320) (o := .cells #[.slice A0_0 l0_0.length c0_0, .slice A0_1 l0_1.length c0_1, .slice A0_2 l0_2.length c0_2, .slice A0_3 l0_3.length c0_3, .int .i64 a0_4, .int .i64 a0_5, .int .i64 a0_6] 47 (0, 0)) (by (with_reducible repeat (first|apply kN|apply kD|apply kA)); refine blk_far ?_ NB320_331.out _; (with_reducible repeat (first|apply kN|apply kD|apply kA)); refine blk_far ?_ NB320_331.out _; (with_reducible repeat (first|apply kN|apply kD|apply kA)); exact BK320.out) hb); have n3_ := aM (blk_below (g := gb331) (o := .cells #[.slice Ao21 t324.length co21, .slice Ao24 t327.length co24] 26 (0, 0)) (by (with_reducible repeat (first|apply kN|apply kD|apply kA)); refine blk_put (cs := #[.slice Ao21 t324.length co21, .slice none 0 0]) ?_ 1 _ rfl; (with_reducible repeat (first|apply kN|apply kD|apply kA)); refine blk_put (cs := #[.slice none 0 0, .slice none 0 0]) ?_ 0 _ rfl; (with_reducible repeat (first|apply kN|apply kD|apply kA)); exact BK331.out) hb); have n4_ := aM (below_step (by repeat (first | (with_reducible first|exact HB.out|apply bA|apply bN|apply bD|refine bS ?_ GE320.out|refine bS ?_ GE331.out)|exact HB.out)) hb); clear HO326; clear HO329; clear BK320; clear BK331; clear HB; have HO326 := n0_; have HO329 := n1_; have BK320 := n2_; have BK331 := n3_; have HB := n4_; clear n0_ n1_ n2_ n3_ n4_; (try clear hb); (try clear hk)))
       go_meet
       case rel => exact ⟨_, (true), (by first | rfl | (simp; done) | (simp [*]; done)), H', ⟨by have := HJ1.out; first | omega|exact Nat.le_refl _⟩, ⟨by (with_reducible repeat (first|apply rA|apply rN|apply rD)); exact HO326.out⟩, ⟨by (with_reducible repeat (first|apply rA|apply rN|apply rD)); exact HO329.out⟩, ⟨by (with_reducible repeat (first|apply kN|apply kD|apply kA)); exact BK320.out⟩, ⟨by (with_reducible repeat (first|apply kN|apply kD|apply kA)); exact BK331.out⟩, ⟨by repeat (first | (with_reducible first|exact HB.out|apply bA|apply bN|apply bD|refine bS ?_ GE320.out|refine bS ?_ GE331.out)|exact HB.out)⟩⟩
    case rest =>
     clear HC17
     (try clear c5); (try clear c13); (try clear c26); (try clear hcz11_0); (try clear hcz11_1); (try clear hcz11_2); (try clear hcz11_3); (try clear hcz11_4); (try clear hcz11_5); (try clear hcz11_6); (try clear hcz18_0); (try clear hcz18_1); (try clear hcz18_2); (try clear hcz18_3); (try clear hcz18_4); (try clear hcz18_5); (try clear hcz18_6); (try clear hcz23_0); (try clear hcz23_1); (try clear hcz29_0); (try clear hcz29_1); (try clear hcz29_2); (try clear hcz29_3); (try clear hcz29_4); (try clear hcz29_5); (try clear hcz29_6); (try clear hcz31_0); (try clear hcz31_1); (try clear hcz31_2); (try clear hcz31_3); (try clear hcz31_4); (try clear hcz31_5); (try clear hcz31_6); (try clear hcz34_0); (try clear hcz34_1); (try clear hcz34_2); (try clear hcz34_3); (try clear hcz34_4); (try clear hcz34_5); (try clear hcz34_6); (try clear hcz7_0); (try clear hcz7_1); (try clear hcz7_2); (try clear hcz7_3); (try clear hcz7_4); (try clear hcz7_5); (try clear hcz7_6); (try clear hcz9_0); (try clear hcz9_1); (try clear hcz9_2); (try clear hcz9_3); (try clear hcz9_4); (try clear hcz9_5); (try clear hcz9_6); (try clear hfz11_0); (try clear hfz11_1); (try clear hfz11_2); (try clear hfz11_3); (try clear hfz11_4); (try clear hfz11_5); (try clear hfz11_6); (try clear hfz18_0); (try clear hfz18_1); (try clear hfz18_2); (try clear hfz18_3); (try clear hfz18_4); (try clear hfz18_5); (try clear hfz18_6); (try clear hfz23_0); (try clear hfz23_1); (try clear hfz29_0); (try clear hfz29_1); (try clear hfz29_2); (try clear hfz29_3); (try clear hfz29_4); (try clear hfz29_5); (try clear hfz29_6); (try clear hfz31_0); (try clear hfz31_1); (try clear hfz31_2); (try clear hfz31_3); (try clear hfz31_4); (try clear hfz31_5); (try clear hfz31_6); (try clear hfz34_0); (try clear hfz34_1); (try clear hfz34_2); (try clear hfz34_3); (try clear hfz34_4); (try clear hfz34_5); (try clear hfz34_6); (try clear hfz7_0); (try clear hfz7_1); (try clear hfz7_2); (try clear hfz7_3); (try clear hfz7_4); (try clear hfz7_5); (try clear hfz7_6); (try clear hfz9_0); (try clear hfz9_1); (try clear hfz9_2); (try clear hfz9_3); (try clear hfz9_4); (try clear hfz9_5); (try clear hfz9_6)
     obtain ⟨kq, x41_16, rfl, HA, HJ16, HO_332000, HO_332001, BK320, BK331, HB⟩ := hcut
     cases kq with
     | zero => exact absurd HA.out (by simp [athanorlaw04_TensorJoins.j1])
     | succ kj16 =>
      have H := HA.out
      clear HA
      simp only [athanorlaw04_TensorJoins.j1] at H
      by_cases c36 : x41_16 = true
      ·subst c36
       have H1 : (if t330 = 20 then (if (t327.length : Int) = 0 then ((athanorlaw04_awake.f kj16).bind fun t334 => (some t334)) else (none)) else (none)) = some r := by rw [if_pos rfl] at H; exact H
       clear H
       have H := H1
       clear H1
       by_cases c37 : t330 = 20
       ·rw [if_pos c37] at H
        have c37b0 : (t330 == 20) = true := beq_iff_eq.mpr c37
        have c37b1 : (t330 != 20) = false := bne_eq_false_iff_eq.mpr c37
        clear c37
        by_cases c38 : (t327.length : Int) = 0
        ·rw [if_pos c38] at H
         have c38b0 : ((t327.length : Int) == 0) = true := beq_iff_eq.mpr c38
         have c38b1 : ((t327.length : Int) != 0) = false := bne_eq_false_iff_eq.mpr c38
         clear c38
         replace H := Option.bind_eq_some_iff.mp H
         obtain ⟨t334, A390, H⟩ := H
         replace H : (some t334) = some r := H
         have A39 := Aside0.mk A390
         clear A390
         as_aux_lemma =>
          obtain rfl := Option.some.inj H
          have hnb40 := NB331_320.out
          have hnc40 := NB320_331.out
          have hcz41_0 : wc.cell? ⟨gb331, 0, none⟩ = some (.slice Ao21 t324.length co21) := (blk_cell BK331.out 0).trans rfl
          have hcz41_1 : wc.cell? ⟨gb331, 1, none⟩ = some (.slice Ao24 t327.length co24) := (blk_cell BK331.out 1).trans rfl
          have hfz41_0 := blk_frozen BK331.out 0
          have hfz41_1 := blk_frozen BK331.out 1
          go_wp2_with (first | (go_at_call 9; (with_reducible refine (athanorlaw04_awake.calls kj16  t334 _ A39.out).mono ?_); rintro e w42 ⟨rfl, hb⟩; have n0_ := aM (Kd.R_below (by (with_reducible repeat (first|apply rA|apply rN|apply rD)); exact HO_332000.out) hb); have n1_ := aM (Kd.R_below (by (with_reducible repeat (first|apply rA|apply rN|apply rD)); exact HO_332001.out) hb); have n2_ := aM (blk_below (g := gb320) (o := .cells #[.slice A0_0 l0_0.length c0_0, .slice A0_1 l0_1.length c0_1, .slice A0_2 l0_2.length c0_2, .slice A0_3 l0_3.length c0_3, .int .i64 a0_4, .int .i64 a0_5, .int .i64 a0_6] 47 (0, 0)) (by (with_reducible repeat (first|apply kN|apply kD|apply kA)); exact BK320.out) hb); have n3_ := aM (blk_below (g := gb331) (o := .cells #[.slice Ao21 t324.length co21, .slice Ao24 t327.length co24] 26 (0, 0)) (by (with_reducible repeat (first|apply kN|apply kD|apply kA)); exact BK331.out) hb); have n4_ := aM (below_step (by repeat (first | (with_reducible first|exact HB.out|apply bA|apply bN|apply bD|refine bS ?_ GE320.out|refine bS ?_ GE331.out)|exact HB.out)) hb); clear HO_332000; clear HO_332001; clear BK320; clear BK331; clear HB; have HO_332000 := n0_; have HO_332001 := n1_; have BK320 := n2_; have BK331 := n3_; have HB := n4_; clear n0_ n1_ n2_ n3_ n4_; (try clear hb)))
          go_ret
          exact ⟨by first | rfl | (simp [errW_none, errW_some] <;> rfl) | (simp [*, errW_none, errW_some] <;> rfl), by repeat (first | (with_reducible first|exact HB.out|apply bA|apply bN|apply bD|refine bS ?_ GE320.out|refine bS ?_ GE331.out)|exact HB.out)⟩
        ·rw [if_neg c38] at H
         exact absurd H (by simp)
       ·rw [if_neg c37] at H
        exact absurd H (by simp)
      ·replace c36 := Bool.eq_false_iff.mpr c36
       subst c36
       have H1 : ((shape_Shape_Join.f kj16 l0_0 l0_2 a0_4).bind fun bt335 => (if bt335.2 = 0 then (if a0_4 < 0 then (athanorlaw04_TensorJoins.j2 kj16 t330 bt335.1 true l0_0 l0_1 l0_2 l0_3 a0_4 a0_5 a0_6 t324 t327) else (if a0_4 ≥ (l0_0.length : Int) then (athanorlaw04_TensorJoins.j2 kj16 t330 bt335.1 true l0_0 l0_1 l0_2 l0_3 a0_4 a0_5 a0_6 t324 t327) else (if a0_4 ≥ (l0_2.length : Int) then (athanorlaw04_TensorJoins.j2 kj16 t330 bt335.1 true l0_0 l0_1 l0_2 l0_3 a0_4 a0_5 a0_6 t324 t327) else (athanorlaw04_TensorJoins.j2 kj16 t330 bt335.1 ((bt335.1.length : Int) != (l0_0.length : Int)) l0_0 l0_1 l0_2 l0_3 a0_4 a0_5 a0_6 t324 t327)))) else (if t330 = bt335.2 then (if (t327.length : Int) = 0 then ((athanorlaw04_awake.f kj16).bind fun t339 => (some t339)) else (none)) else (none)))) = some r := by rw [if_neg (show ¬ (false = true) by decide)] at H; exact H
       clear H
       have H := H1
       clear H1
       replace H := Option.bind_eq_some_iff.mp H
       obtain ⟨⟨t335, t336⟩, A430, H⟩ := H
       replace H : (if t336 = 0 then (if a0_4 < 0 then (athanorlaw04_TensorJoins.j2 kj16 t330 t335 true l0_0 l0_1 l0_2 l0_3 a0_4 a0_5 a0_6 t324 t327) else (if a0_4 ≥ (l0_0.length : Int) then (athanorlaw04_TensorJoins.j2 kj16 t330 t335 true l0_0 l0_1 l0_2 l0_3 a0_4 a0_5 a0_6 t324 t327) else (if a0_4 ≥ (l0_2.length : Int) then (athanorlaw04_TensorJoins.j2 kj16 t330 t335 true l0_0 l0_1 l0_2 l0_3 a0_4 a0_5 a0_6 t324 t327) else (athanorlaw04_TensorJoins.j2 kj16 t330 t335 ((t335.length : Int) != (l0_0.length : Int)) l0_0 l0_1 l0_2 l0_3 a0_4 a0_5 a0_6 t324 t327)))) else (if t330 = t336 then (if (t327.length : Int) = 0 then ((athanorlaw04_awake.f kj16).bind fun t339 => (some t339)) else (none)) else (none))) = some r := H
       have A43 := Aside0.mk A430
       clear A430
       by_cases c44 : t336 = 0
       ·rw [if_pos c44] at H
        have c44b0 : (t336 == 0) = true := beq_iff_eq.mpr c44
        have c44b1 : (t336 != 0) = false := bne_eq_false_iff_eq.mpr c44
        clear c44
        have HC45 := Aside0.mk H
        clear H
        have hnb46 := NB320_331.out
        have hnc46 := NB331_320.out
        have hcz47_0 : wc.cell? ⟨gb320, 0, none⟩ = some (.slice A0_0 l0_0.length c0_0) := (blk_cell BK320.out 0).trans rfl
        have hcz47_1 : wc.cell? ⟨gb320, 1, none⟩ = some (.slice A0_1 l0_1.length c0_1) := (blk_cell BK320.out 1).trans rfl
        have hcz47_2 : wc.cell? ⟨gb320, 2, none⟩ = some (.slice A0_2 l0_2.length c0_2) := (blk_cell BK320.out 2).trans rfl
        have hcz47_3 : wc.cell? ⟨gb320, 3, none⟩ = some (.slice A0_3 l0_3.length c0_3) := (blk_cell BK320.out 3).trans rfl
        have hcz47_4 : wc.cell? ⟨gb320, 4, none⟩ = some (.int .i64 a0_4) := (blk_cell BK320.out 4).trans rfl
        have hcz47_5 : wc.cell? ⟨gb320, 5, none⟩ = some (.int .i64 a0_5) := (blk_cell BK320.out 5).trans rfl
        have hcz47_6 : wc.cell? ⟨gb320, 6, none⟩ = some (.int .i64 a0_6) := (blk_cell BK320.out 6).trans rfl
        have hfz47_0 := blk_frozen BK320.out 0
        have hfz47_1 := blk_frozen BK320.out 1
        have hfz47_2 := blk_frozen BK320.out 2
        have hfz47_3 := blk_frozen BK320.out 3
        have hfz47_4 := blk_frozen BK320.out 4
        have hfz47_5 := blk_frozen BK320.out 5
        have hfz47_6 := blk_frozen BK320.out 6
        go_upto_region 9 with (first | ((with_reducible refine gate_callee (f := 34) rfl ?_); refine goesL_ (some 62) rfl rfl Try.func34 (by kernel_rfl) rfl #[.slice A0_0 l0_0.length c0_0, .slice A0_2 l0_2.length c0_2, .int .i64 a0_4] rfl (by (try simp only [List.map_toArray, List.map_cons, List.map_nil]); first | done | rfl | (simp only [List.length_drop, List.length_take]; rfl)) ?_; (with_reducible refine (shape_Shape_Join.calls kj16 _ _ l0_0 _ _ l0_2 a0_4 t335 t336 _ ?side1 ?side2 ?side3 ?side4 A43.out).mono ?_); (case side1 => repeat (first|exact (Kd.C_below HR0_0.out HB.out) | with_reducible first|apply cA|apply cN|apply cD)); (case side2 => exact HC0_0.out); (case side3 => repeat (first|exact (Kd.C_below HR0_2.out HB.out) | with_reducible first|apply cA|apply cN|apply cD)); (case side4 => exact HC0_2.out); rintro e w48 ⟨v337, rfl, ho0, hb⟩; refine ⟨_, rfl, ?_⟩; have n0_ := aM (Kd.R_elder' (by (with_reducible repeat (first|apply rA|apply rN|apply rD)); exact HO_332000.out) (Kd.R_base ho0) hb); have n1_ := aM (Kd.R_below (by (with_reducible repeat (first|apply rA|apply rN|apply rD)); exact HO_332001.out) hb); have n2_ := aM (Kd.R_lower (Kd.R_new' ho0 (Kd.R_lt (by (with_reducible repeat (first|apply rA|apply rN|apply rD)); exact HO_332000.out))) (below_size (by repeat (first | (with_reducible first|exact HB.out|apply bA|apply bN|apply bD|refine bS ?_ GE320.out|refine bS ?_ GE331.out)|exact HB.out)))); have n3_ := aM (blk_below (g := gb320) (o := .cells #[.slice A0_0 l0_0.length c0_0, .slice A0_1 l0_1.length c0_1, .slice A0_2 l0_2.length c0_2, .slice A0_3 l0_3.length c0_3, .int .i64 a0_4, .int .i64 a0_5, .int .i64 a0_6] 47 (0, 0)) (by (with_reducible repeat (first|apply kN|apply kD|apply kA)); exact BK320.out) hb); have n4_ := aM (blk_below (g := gb331) (o := .cells #[.slice Ao21 t324.length co21, .slice Ao24 t327.length co24] 26 (0, 0)) (by (with_reducible repeat (first|apply kN|apply kD|apply kA)); exact BK331.out) hb); have n5_ := aM (below_step (by repeat (first | (with_reducible first|exact HB.out|apply bA|apply bN|apply bD|refine bS ?_ GE320.out|refine bS ?_ GE331.out)|exact HB.out)) hb); clear HO_332000; clear HO_332001; clear BK320; clear BK331; clear HB; have HO_332000 := n0_; have HO_332001 := n1_; have HO338 := n2_; have BK320 := n3_; have BK331 := n4_; have HB := n5_; clear n0_ n1_ n2_ n3_ n4_ n5_; (try clear hb); (try clear ho0)))
        (try simp only [Act.put, List.setIfInBounds_toArray, List.set_cons_zero, List.set_cons_succ])
        go_cut [108] (fun v108 wc => ∃ (kq : Nat) (x108_44 : Bool), v108 = .bool x108_44 ∧ Aside0 (athanorlaw04_TensorJoins.j2 kq t330 t335 x108_44 l0_0 l0_1 l0_2 l0_3 a0_4 a0_5 a0_6 t324 t327 = some r) ∧ Aside0 (kq ≤ kj16) ∧ Aside0 (Kd.R (Kd.int .i64) 3 wc w.heap.size (fun k_ => some k_ ≠ ((.slice Ao21 t324.length co21) : Value).ownBlock) v337 t335) ∧ Aside0 (Kd.R (Kd.int .i64) 3 wc w.heap.size (fun k_ => some k_ ≠ (v337 : Value).ownBlock) (.slice Ao21 t324.length co21) t324) ∧ Aside0 (Kd.R (Kd.int .i64) 27 wc w.heap.size (fun _ => True) (.slice Ao24 t327.length co24) t327) ∧ Aside0 (wc.heap[gb320]? = some (.cells #[(.slice A0_0 l0_0.length c0_0), (.slice A0_1 l0_1.length c0_1), (.slice A0_2 l0_2.length c0_2), (.slice A0_3 l0_3.length c0_3), .int .i64 a0_4, .int .i64 a0_5, .int .i64 a0_6] 47 (0, 0))) ∧ Aside0 (wc.heap[gb331]? = some (.cells #[(.slice Ao21 t324.length co21), (.slice Ao24 t327.length co24)] 26 (0, 0))) ∧ Aside0 (Below w.heap.size w wc))
        case first =>
         have H := HC45.out
         clear HC45
         by_cases c49 : a0_4 < 0
         ·rw [if_pos c49] at H
          have c49b0 : decide (a0_4 < 0) = true := decide_eq_true c49
          clear c49
          (first | rw [c49b0] | (simp only [i64_w, i32_w]; rw [c49b0]) | skip)
          as_aux_lemma =>
           have H' := Aside0.mk H
           clear H
           have hnb50 := NB320_331.out
           have hnc50 := NB331_320.out
           have hcz51_0 : w48.cell? ⟨gb320, 0, none⟩ = some (.slice A0_0 l0_0.length c0_0) := (blk_cell BK320.out 0).trans rfl
           have hcz51_1 : w48.cell? ⟨gb320, 1, none⟩ = some (.slice A0_1 l0_1.length c0_1) := (blk_cell BK320.out 1).trans rfl
           have hcz51_2 : w48.cell? ⟨gb320, 2, none⟩ = some (.slice A0_2 l0_2.length c0_2) := (blk_cell BK320.out 2).trans rfl
           have hcz51_3 : w48.cell? ⟨gb320, 3, none⟩ = some (.slice A0_3 l0_3.length c0_3) := (blk_cell BK320.out 3).trans rfl
           have hcz51_4 : w48.cell? ⟨gb320, 4, none⟩ = some (.int .i64 a0_4) := (blk_cell BK320.out 4).trans rfl
           have hcz51_5 : w48.cell? ⟨gb320, 5, none⟩ = some (.int .i64 a0_5) := (blk_cell BK320.out 5).trans rfl
           have hcz51_6 : w48.cell? ⟨gb320, 6, none⟩ = some (.int .i64 a0_6) := (blk_cell BK320.out 6).trans rfl
           have hfz51_0 := blk_frozen BK320.out 0
           have hfz51_1 := blk_frozen BK320.out 1
           have hfz51_2 := blk_frozen BK320.out 2
           have hfz51_3 := blk_frozen BK320.out 3
           have hfz51_4 := blk_frozen BK320.out 4
           have hfz51_5 := blk_frozen BK320.out 5
           have hfz51_6 := blk_frozen BK320.out 6
           go_wp2
           go_meet
           case rel => exact ⟨_, (true), (by first | rfl | (simp; done) | (simp [*]; done)), H', ⟨by have := HJ1.out; have := HJ16.out; first | omega|exact Nat.le_refl _⟩, ⟨by (with_reducible repeat (first|apply rA|apply rN|apply rD)); exact Kd.R_mono HO338.out (fun _ hk => hk.2)⟩, ⟨by (with_reducible repeat (first|apply rA|apply rN|apply rD)); exact Kd.R_mono HO_332000.out (fun _ hk => hk.2)⟩, ⟨by (with_reducible repeat (first|apply rA|apply rN|apply rD)); exact HO_332001.out⟩, ⟨by (with_reducible repeat (first|apply kN|apply kD|apply kA)); exact BK320.out⟩, ⟨by (with_reducible repeat (first|apply kN|apply kD|apply kA)); exact BK331.out⟩, ⟨by repeat (first | (with_reducible first|exact HB.out|apply bA|apply bN|apply bD|refine bS ?_ GE320.out|refine bS ?_ GE331.out)|exact HB.out)⟩⟩
         ·rw [if_neg c49] at H
          have c49b0 : decide (a0_4 < 0) = false := decide_eq_false c49
          clear c49
          (first | rw [c49b0] | (simp only [i64_w, i32_w]; rw [c49b0]) | skip)
          by_cases c52 : a0_4 ≥ (l0_0.length : Int)
          ·rw [if_pos c52] at H
           have c52b0 : decide ((l0_0.length : Int) ≤ a0_4) = true := decide_eq_true c52
           clear c52
           as_aux_lemma =>
            have H' := Aside0.mk H
            clear H
            have hnb53 := NB320_331.out
            have hnc53 := NB331_320.out
            have hcz54_0 : w48.cell? ⟨gb320, 0, none⟩ = some (.slice A0_0 l0_0.length c0_0) := (blk_cell BK320.out 0).trans rfl
            have hcz54_1 : w48.cell? ⟨gb320, 1, none⟩ = some (.slice A0_1 l0_1.length c0_1) := (blk_cell BK320.out 1).trans rfl
            have hcz54_2 : w48.cell? ⟨gb320, 2, none⟩ = some (.slice A0_2 l0_2.length c0_2) := (blk_cell BK320.out 2).trans rfl
            have hcz54_3 : w48.cell? ⟨gb320, 3, none⟩ = some (.slice A0_3 l0_3.length c0_3) := (blk_cell BK320.out 3).trans rfl
            have hcz54_4 : w48.cell? ⟨gb320, 4, none⟩ = some (.int .i64 a0_4) := (blk_cell BK320.out 4).trans rfl
            have hcz54_5 : w48.cell? ⟨gb320, 5, none⟩ = some (.int .i64 a0_5) := (blk_cell BK320.out 5).trans rfl
            have hcz54_6 : w48.cell? ⟨gb320, 6, none⟩ = some (.int .i64 a0_6) := (blk_cell BK320.out 6).trans rfl
            have hfz54_0 := blk_frozen BK320.out 0
            have hfz54_1 := blk_frozen BK320.out 1
            have hfz54_2 := blk_frozen BK320.out 2
            have hfz54_3 := blk_frozen BK320.out 3
            have hfz54_4 := blk_frozen BK320.out 4
            have hfz54_5 := blk_frozen BK320.out 5
            have hfz54_6 := blk_frozen BK320.out 6
            go_wp2
            go_meet
            case rel => exact ⟨_, (true), (by first | rfl | (simp; done) | (simp [*]; done)), H', ⟨by have := HJ1.out; have := HJ16.out; first | omega|exact Nat.le_refl _⟩, ⟨by (with_reducible repeat (first|apply rA|apply rN|apply rD)); exact Kd.R_mono HO338.out (fun _ hk => hk.2)⟩, ⟨by (with_reducible repeat (first|apply rA|apply rN|apply rD)); exact Kd.R_mono HO_332000.out (fun _ hk => hk.2)⟩, ⟨by (with_reducible repeat (first|apply rA|apply rN|apply rD)); exact HO_332001.out⟩, ⟨by (with_reducible repeat (first|apply kN|apply kD|apply kA)); exact BK320.out⟩, ⟨by (with_reducible repeat (first|apply kN|apply kD|apply kA)); exact BK331.out⟩, ⟨by repeat (first | (with_reducible first|exact HB.out|apply bA|apply bN|apply bD|refine bS ?_ GE320.out|refine bS ?_ GE331.out)|exact HB.out)⟩⟩
          ·rw [if_neg c52] at H
           have c52b0 : decide ((l0_0.length : Int) ≤ a0_4) = false := decide_eq_false c52
           clear c52
           by_cases c55 : a0_4 ≥ (l0_2.length : Int)
           ·rw [if_pos c55] at H
            have c55b0 : decide ((l0_2.length : Int) ≤ a0_4) = true := decide_eq_true c55
            clear c55
            as_aux_lemma =>
             have H' := Aside0.mk H
             clear H
             have hnb56 := NB320_331.out
             have hnc56 := NB331_320.out
             have hcz57_0 : w48.cell? ⟨gb320, 0, none⟩ = some (.slice A0_0 l0_0.length c0_0) := (blk_cell BK320.out 0).trans rfl
             have hcz57_1 : w48.cell? ⟨gb320, 1, none⟩ = some (.slice A0_1 l0_1.length c0_1) := (blk_cell BK320.out 1).trans rfl
             have hcz57_2 : w48.cell? ⟨gb320, 2, none⟩ = some (.slice A0_2 l0_2.length c0_2) := (blk_cell BK320.out 2).trans rfl
             have hcz57_3 : w48.cell? ⟨gb320, 3, none⟩ = some (.slice A0_3 l0_3.length c0_3) := (blk_cell BK320.out 3).trans rfl
             have hcz57_4 : w48.cell? ⟨gb320, 4, none⟩ = some (.int .i64 a0_4) := (blk_cell BK320.out 4).trans rfl
             have hcz57_5 : w48.cell? ⟨gb320, 5, none⟩ = some (.int .i64 a0_5) := (blk_cell BK320.out 5).trans rfl
             have hcz57_6 : w48.cell? ⟨gb320, 6, none⟩ = some (.int .i64 a0_6) := (blk_cell BK320.out 6).trans rfl
             have hfz57_0 := blk_frozen BK320.out 0
             have hfz57_1 := blk_frozen BK320.out 1
             have hfz57_2 := blk_frozen BK320.out 2
             have hfz57_3 := blk_frozen BK320.out 3
             have hfz57_4 := blk_frozen BK320.out 4
             have hfz57_5 := blk_frozen BK320.out 5
             have hfz57_6 := blk_frozen BK320.out 6
             go_wp2
             go_meet
             case rel => exact ⟨_, (true), (by first | rfl | (simp; done) | (simp [*]; done)), H', ⟨by have := HJ1.out; have := HJ16.out; first | omega|exact Nat.le_refl _⟩, ⟨by (with_reducible repeat (first|apply rA|apply rN|apply rD)); exact Kd.R_mono HO338.out (fun _ hk => hk.2)⟩, ⟨by (with_reducible repeat (first|apply rA|apply rN|apply rD)); exact Kd.R_mono HO_332000.out (fun _ hk => hk.2)⟩, ⟨by (with_reducible repeat (first|apply rA|apply rN|apply rD)); exact HO_332001.out⟩, ⟨by (with_reducible repeat (first|apply kN|apply kD|apply kA)); exact BK320.out⟩, ⟨by (with_reducible repeat (first|apply kN|apply kD|apply kA)); exact BK331.out⟩, ⟨by repeat (first | (with_reducible first|exact HB.out|apply bA|apply bN|apply bD|refine bS ?_ GE320.out|refine bS ?_ GE331.out)|exact HB.out)⟩⟩
           ·rw [if_neg c55] at H
            have c55b0 : decide ((l0_2.length : Int) ≤ a0_4) = false := decide_eq_false c55
            clear c55
            as_aux_lemma =>
             have H' := Aside0.mk H
             clear H
             have hnb58 := NB320_331.out
             have hnc58 := NB331_320.out
             have hcz59_0 : w48.cell? ⟨gb320, 0, none⟩ = some (.slice A0_0 l0_0.length c0_0) := (blk_cell BK320.out 0).trans rfl
             have hcz59_1 : w48.cell? ⟨gb320, 1, none⟩ = some (.slice A0_1 l0_1.length c0_1) := (blk_cell BK320.out 1).trans rfl
             have hcz59_2 : w48.cell? ⟨gb320, 2, none⟩ = some (.slice A0_2 l0_2.length c0_2) := (blk_cell BK320.out 2).trans rfl
             have hcz59_3 : w48.cell? ⟨gb320, 3, none⟩ = some (.slice A0_3 l0_3.length c0_3) := (blk_cell BK320.out 3).trans rfl
             have hcz59_4 : w48.cell? ⟨gb320, 4, none⟩ = some (.int .i64 a0_4) := (blk_cell BK320.out 4).trans rfl
             have hcz59_5 : w48.cell? ⟨gb320, 5, none⟩ = some (.int .i64 a0_5) := (blk_cell BK320.out 5).trans rfl
             have hcz59_6 : w48.cell? ⟨gb320, 6, none⟩ = some (.int .i64 a0_6) := (blk_cell BK320.out 6).trans rfl
             have hfz59_0 := blk_frozen BK320.out 0
             have hfz59_1 := blk_frozen BK320.out 1
             have hfz59_2 := blk_frozen BK320.out 2
             have hfz59_3 := blk_frozen BK320.out 3
             have hfz59_4 := blk_frozen BK320.out 4
             have hfz59_5 := blk_frozen BK320.out 5
             have hfz59_6 := blk_frozen BK320.out 6
             obtain ⟨Ao60, co60, eo60⟩ := Kd.R_slice HO338.out
             subst eo60
             go_wp2
             go_meet
             case rel => exact ⟨_, (((t335.length : Int) != (l0_0.length : Int))), (by first | rfl | (simp; done) | (simp [*]; done)), H', ⟨by have := HJ1.out; have := HJ16.out; first | omega|exact Nat.le_refl _⟩, ⟨by (with_reducible repeat (first|apply rA|apply rN|apply rD)); exact Kd.R_mono HO338.out (fun _ hk => hk.2)⟩, ⟨by (with_reducible repeat (first|apply rA|apply rN|apply rD)); exact Kd.R_mono HO_332000.out (fun _ hk => hk.2)⟩, ⟨by (with_reducible repeat (first|apply rA|apply rN|apply rD)); exact HO_332001.out⟩, ⟨by (with_reducible repeat (first|apply kN|apply kD|apply kA)); exact BK320.out⟩, ⟨by (with_reducible repeat (first|apply kN|apply kD|apply kA)); exact BK331.out⟩, ⟨by repeat (first | (with_reducible first|exact HB.out|apply bA|apply bN|apply bD|refine bS ?_ GE320.out|refine bS ?_ GE331.out)|exact HB.out)⟩⟩
        case rest =>
         clear HC45
         (try clear c5); (try clear c13); (try clear c26); (try clear c36); (try clear c37); (try clear c37b0); (try clear c37b1); (try clear c38); (try clear c38b0); (try clear c38b1); (try clear c44); (try clear c44b0); (try clear c44b1); (try clear c49); (try clear c49b0); (try clear c52); (try clear c52b0); (try clear c55); (try clear c55b0); (try clear hcz11_0); (try clear hcz11_1); (try clear hcz11_2); (try clear hcz11_3); (try clear hcz11_4); (try clear hcz11_5); (try clear hcz11_6); (try clear hcz18_0); (try clear hcz18_1); (try clear hcz18_2); (try clear hcz18_3); (try clear hcz18_4); (try clear hcz18_5); (try clear hcz18_6); (try clear hcz23_0); (try clear hcz23_1); (try clear hcz29_0); (try clear hcz29_1); (try clear hcz29_2); (try clear hcz29_3); (try clear hcz29_4); (try clear hcz29_5); (try clear hcz29_6); (try clear hcz31_0); (try clear hcz31_1); (try clear hcz31_2); (try clear hcz31_3); (try clear hcz31_4); (try clear hcz31_5); (try clear hcz31_6); (try clear hcz34_0); (try clear hcz34_1); (try clear hcz34_2); (try clear hcz34_3); (try clear hcz34_4); (try clear hcz34_5); (try clear hcz34_6); (try clear hcz41_0); (try clear hcz41_1); (try clear hcz47_0); (try clear hcz47_1); (try clear hcz47_2); (try clear hcz47_3); (try clear hcz47_4); (try clear hcz47_5); (try clear hcz47_6); (try clear hcz51_0); (try clear hcz51_1); (try clear hcz51_2); (try clear hcz51_3); (try clear hcz51_4); (try clear hcz51_5); (try clear hcz51_6); (try clear hcz54_0); (try clear hcz54_1); (try clear hcz54_2); (try clear hcz54_3); (try clear hcz54_4); (try clear hcz54_5); (try clear hcz54_6); (try clear hcz57_0); (try clear hcz57_1); (try clear hcz57_2); (try clear hcz57_3); (try clear hcz57_4); (try clear hcz57_5); (try clear hcz57_6); (try clear hcz59_0); (try clear hcz59_1); (try clear hcz59_2); (try clear hcz59_3); (try clear hcz59_4); (try clear hcz59_5); (try clear hcz59_6); (try clear hcz7_0); (try clear hcz7_1); (try clear hcz7_2); (try clear hcz7_3); (try clear hcz7_4); (try clear hcz7_5); (try clear hcz7_6); (try clear hcz9_0); (try clear hcz9_1); (try clear hcz9_2); (try clear hcz9_3); (try clear hcz9_4); (try clear hcz9_5); (try clear hcz9_6); (try clear hfz11_0); (try clear hfz11_1); (try clear hfz11_2); (try clear hfz11_3); (try clear hfz11_4); (try clear hfz11_5); (try clear hfz11_6); (try clear hfz18_0); (try clear hfz18_1); (try clear hfz18_2); (try clear hfz18_3); (try clear hfz18_4); (try clear hfz18_5); (try clear hfz18_6); (try clear hfz23_0); (try clear hfz23_1); (try clear hfz29_0); (try clear hfz29_1); (try clear hfz29_2); (try clear hfz29_3); (try clear hfz29_4); (try clear hfz29_5); (try clear hfz29_6); (try clear hfz31_0); (try clear hfz31_1); (try clear hfz31_2); (try clear hfz31_3); (try clear hfz31_4); (try clear hfz31_5); (try clear hfz31_6); (try clear hfz34_0); (try clear hfz34_1); (try clear hfz34_2); (try clear hfz34_3); (try clear hfz34_4); (try clear hfz34_5); (try clear hfz34_6); (try clear hfz41_0); (try clear hfz41_1); (try clear hfz47_0); (try clear hfz47_1); (try clear hfz47_2); (try clear hfz47_3); (try clear hfz47_4); (try clear hfz47_5); (try clear hfz47_6); (try clear hfz51_0); (try clear hfz51_1); (try clear hfz51_2); (try clear hfz51_3); (try clear hfz51_4); (try clear hfz51_5); (try clear hfz51_6); (try clear hfz54_0); (try clear hfz54_1); (try clear hfz54_2); (try clear hfz54_3); (try clear hfz54_4); (try clear hfz54_5); (try clear hfz54_6); (try clear hfz57_0); (try clear hfz57_1); (try clear hfz57_2); (try clear hfz57_3); (try clear hfz57_4); (try clear hfz57_5); (try clear hfz57_6); (try clear hfz59_0); (try clear hfz59_1); (try clear hfz59_2); (try clear hfz59_3); (try clear hfz59_4); (try clear hfz59_5); (try clear hfz59_6); (try clear hfz7_0); (try clear hfz7_1); (try clear hfz7_2); (try clear hfz7_3); (try clear hfz7_4); (try clear hfz7_5); (try clear hfz7_6); (try clear hfz9_0); (try clear hfz9_1); (try clear hfz9_2); (try clear hfz9_3); (try clear hfz9_4); (try clear hfz9_5); (try clear hfz9_6)
         obtain ⟨kq, x108_44, rfl, HA, HJ44, HO_5, HO_332000, HO_332001, BK320, BK331, HB⟩ := hcut
         cases kq with
         | zero => exact absurd HA.out (by simp [athanorlaw04_TensorJoins.j2])
         | succ kj44 =>
          have H := HA.out
          clear HA
          simp only [athanorlaw04_TensorJoins.j2] at H
          by_cases c61 : x108_44 = true
          ·subst c61
           have H1 : (none) = some r := by rw [if_pos rfl] at H; exact H
           clear H
           have H := H1
           clear H1
           exact absurd H (by simp)
          ·replace c61 := Bool.eq_false_iff.mpr c61
           subst c61
           have H1 : (if 0 ≤ a0_4 then (if a0_4 < (l0_0.length : Int) then ((tensor_Grid_fix_F_Cut.f t324 t327 a0_4 0 (rd l0_0 a0_4)).bind fun bt341 => (if a0_4 < (t335.length : Int) then ((tensor_Grid_fix_F_Cut.f t324 t327 a0_4 (rd l0_0 a0_4) (rd t335 a0_4)).bind fun bt351 => (if t330 = 0 then ((shape_Shape_Equal.f kj44 t324 t335).bind fun t359 => (if t359 = true then ((athanorlaw04_cells.f kj44 l0_0 l0_1).bind fun t360 => ((athanorlaw04_cells.f kj44 l0_2 l0_3).bind fun t363 => ((athanorref04_Join.f kj44 l0_0 l0_2 t360 t363 a0_4).bind fun t366 => ((athanorlaw04_same.f kj44 t324 t327 t366).bind fun t369 => (if t369 = true then (if bt341.2.2 = 0 then (if bt351.2.2 = 0 then ((tensor_Equal_fix_F.f kj44 bt341.1 bt341.2.1 l0_0 l0_1).bind fun t370 => (if t370 = true then ((tensor_Equal_fix_F.f kj44 bt351.1 bt351.2.1 l0_2 l0_3).bind fun t371 => (if t371 = true then ((athanorlaw04_awake.f kj44).bind fun t372 => (some t372)) else (none))) else (none))) else (none)) else (none)) else (none)))))) else (none))) else (none))) else (none))) else (none)) else (none)) = some r := by rw [if_neg (show ¬ (false = true) by decide)] at H; exact H
           clear H
           have H := H1
           clear H1
           by_cases c62 : 0 ≤ a0_4
           ·rw [if_pos c62] at H
            have c62b0 : decide (0 ≤ a0_4) = true := decide_eq_true c62
            clear c62
            by_cases c63 : a0_4 < (l0_0.length : Int)
            ·rw [if_pos c63] at H
             have c63b0 : decide (a0_4 < (l0_0.length : Int)) = true := decide_eq_true c63
             clear c63
             replace H := Option.bind_eq_some_iff.mp H
             obtain ⟨⟨t341, t344, t347⟩, A640, H⟩ := H
             replace H : (if a0_4 < (t335.length : Int) then ((tensor_Grid_fix_F_Cut.f t324 t327 a0_4 (rd l0_0 a0_4) (rd t335 a0_4)).bind fun bt351 => (if t330 = 0 then ((shape_Shape_Equal.f kj44 t324 t335).bind fun t359 => (if t359 = true then ((athanorlaw04_cells.f kj44 l0_0 l0_1).bind fun t360 => ((athanorlaw04_cells.f kj44 l0_2 l0_3).bind fun t363 => ((athanorref04_Join.f kj44 l0_0 l0_2 t360 t363 a0_4).bind fun t366 => ((athanorlaw04_same.f kj44 t324 t327 t366).bind fun t369 => (if t369 = true then (if t347 = 0 then (if bt351.2.2 = 0 then ((tensor_Equal_fix_F.f kj44 t341 t344 l0_0 l0_1).bind fun t370 => (if t370 = true then ((tensor_Equal_fix_F.f kj44 bt351.1 bt351.2.1 l0_2 l0_3).bind fun t371 => (if t371 = true then ((athanorlaw04_awake.f kj44).bind fun t372 => (some t372)) else (none))) else (none))) else (none)) else (none)) else (none)))))) else (none))) else (none))) else (none)) = some r := H
             have A64 := Aside0.mk A640
             clear A640
             by_cases c65 : a0_4 < (t335.length : Int)
             ·rw [if_pos c65] at H
              have c65b0 : decide (a0_4 < (t335.length : Int)) = true := decide_eq_true c65
              clear c65
              replace H := Option.bind_eq_some_iff.mp H
              obtain ⟨⟨t351, t354, t357⟩, A660, H⟩ := H
              replace H : (if t330 = 0 then ((shape_Shape_Equal.f kj44 t324 t335).bind fun t359 => (if t359 = true then ((athanorlaw04_cells.f kj44 l0_0 l0_1).bind fun t360 => ((athanorlaw04_cells.f kj44 l0_2 l0_3).bind fun t363 => ((athanorref04_Join.f kj44 l0_0 l0_2 t360 t363 a0_4).bind fun t366 => ((athanorlaw04_same.f kj44 t324 t327 t366).bind fun t369 => (if t369 = true then (if t347 = 0 then (if t357 = 0 then ((tensor_Equal_fix_F.f kj44 t341 t344 l0_0 l0_1).bind fun t370 => (if t370 = true then ((tensor_Equal_fix_F.f kj44 t351 t354 l0_2 l0_3).bind fun t371 => (if t371 = true then ((athanorlaw04_awake.f kj44).bind fun t372 => (some t372)) else (none))) else (none))) else (none)) else (none)) else (none)))))) else (none))) else (none)) = some r := H
              have A66 := Aside0.mk A660
              clear A660
              by_cases c67 : t330 = 0
              ·rw [if_pos c67] at H
               have c67b0 : (t330 == 0) = true := beq_iff_eq.mpr c67
               have c67b1 : (t330 != 0) = false := bne_eq_false_iff_eq.mpr c67
               clear c67
               replace H := Option.bind_eq_some_iff.mp H
               obtain ⟨t359, A680, H⟩ := H
               replace H : (if t359 = true then ((athanorlaw04_cells.f kj44 l0_0 l0_1).bind fun t360 => ((athanorlaw04_cells.f kj44 l0_2 l0_3).bind fun t363 => ((athanorref04_Join.f kj44 l0_0 l0_2 t360 t363 a0_4).bind fun t366 => ((athanorlaw04_same.f kj44 t324 t327 t366).bind fun t369 => (if t369 = true then (if t347 = 0 then (if t357 = 0 then ((tensor_Equal_fix_F.f kj44 t341 t344 l0_0 l0_1).bind fun t370 => (if t370 = true then ((tensor_Equal_fix_F.f kj44 t351 t354 l0_2 l0_3).bind fun t371 => (if t371 = true then ((athanorlaw04_awake.f kj44).bind fun t372 => (some t372)) else (none))) else (none))) else (none)) else (none)) else (none)))))) else (none)) = some r := H
               have A68 := Aside0.mk A680
               clear A680
               by_cases c69 : t359 = true
               ·subst c69
                have H1 : ((athanorlaw04_cells.f kj44 l0_0 l0_1).bind fun t360 => ((athanorlaw04_cells.f kj44 l0_2 l0_3).bind fun t363 => ((athanorref04_Join.f kj44 l0_0 l0_2 t360 t363 a0_4).bind fun t366 => ((athanorlaw04_same.f kj44 t324 t327 t366).bind fun t369 => (if t369 = true then (if t347 = 0 then (if t357 = 0 then ((tensor_Equal_fix_F.f kj44 t341 t344 l0_0 l0_1).bind fun t370 => (if t370 = true then ((tensor_Equal_fix_F.f kj44 t351 t354 l0_2 l0_3).bind fun t371 => (if t371 = true then ((athanorlaw04_awake.f kj44).bind fun t372 => (some t372)) else (none))) else (none))) else (none)) else (none)) else (none)))))) = some r := by rw [if_pos rfl] at H; exact H
                clear H
                have H := H1
                clear H1
                replace H := Option.bind_eq_some_iff.mp H
                obtain ⟨t360, A700, H⟩ := H
                replace H : ((athanorlaw04_cells.f kj44 l0_2 l0_3).bind fun t363 => ((athanorref04_Join.f kj44 l0_0 l0_2 t360 t363 a0_4).bind fun t366 => ((athanorlaw04_same.f kj44 t324 t327 t366).bind fun t369 => (if t369 = true then (if t347 = 0 then (if t357 = 0 then ((tensor_Equal_fix_F.f kj44 t341 t344 l0_0 l0_1).bind fun t370 => (if t370 = true then ((tensor_Equal_fix_F.f kj44 t351 t354 l0_2 l0_3).bind fun t371 => (if t371 = true then ((athanorlaw04_awake.f kj44).bind fun t372 => (some t372)) else (none))) else (none))) else (none)) else (none)) else (none))))) = some r := H
                have A70 := Aside0.mk A700
                clear A700
                replace H := Option.bind_eq_some_iff.mp H
                obtain ⟨t363, A710, H⟩ := H
                replace H : ((athanorref04_Join.f kj44 l0_0 l0_2 t360 t363 a0_4).bind fun t366 => ((athanorlaw04_same.f kj44 t324 t327 t366).bind fun t369 => (if t369 = true then (if t347 = 0 then (if t357 = 0 then ((tensor_Equal_fix_F.f kj44 t341 t344 l0_0 l0_1).bind fun t370 => (if t370 = true then ((tensor_Equal_fix_F.f kj44 t351 t354 l0_2 l0_3).bind fun t371 => (if t371 = true then ((athanorlaw04_awake.f kj44).bind fun t372 => (some t372)) else (none))) else (none))) else (none)) else (none)) else (none)))) = some r := H
                have A71 := Aside0.mk A710
                clear A710
                replace H := Option.bind_eq_some_iff.mp H
                obtain ⟨t366, A720, H⟩ := H
                replace H : ((athanorlaw04_same.f kj44 t324 t327 t366).bind fun t369 => (if t369 = true then (if t347 = 0 then (if t357 = 0 then ((tensor_Equal_fix_F.f kj44 t341 t344 l0_0 l0_1).bind fun t370 => (if t370 = true then ((tensor_Equal_fix_F.f kj44 t351 t354 l0_2 l0_3).bind fun t371 => (if t371 = true then ((athanorlaw04_awake.f kj44).bind fun t372 => (some t372)) else (none))) else (none))) else (none)) else (none)) else (none))) = some r := H
                have A72 := Aside0.mk A720
                clear A720
                replace H := Option.bind_eq_some_iff.mp H
                obtain ⟨t369, A730, H⟩ := H
                replace H : (if t369 = true then (if t347 = 0 then (if t357 = 0 then ((tensor_Equal_fix_F.f kj44 t341 t344 l0_0 l0_1).bind fun t370 => (if t370 = true then ((tensor_Equal_fix_F.f kj44 t351 t354 l0_2 l0_3).bind fun t371 => (if t371 = true then ((athanorlaw04_awake.f kj44).bind fun t372 => (some t372)) else (none))) else (none))) else (none)) else (none)) else (none)) = some r := H
                have A73 := Aside0.mk A730
                clear A730
                by_cases c74 : t369 = true
                ·subst c74
                 have H1 : (if t347 = 0 then (if t357 = 0 then ((tensor_Equal_fix_F.f kj44 t341 t344 l0_0 l0_1).bind fun t370 => (if t370 = true then ((tensor_Equal_fix_F.f kj44 t351 t354 l0_2 l0_3).bind fun t371 => (if t371 = true then ((athanorlaw04_awake.f kj44).bind fun t372 => (some t372)) else (none))) else (none))) else (none)) else (none)) = some r := by rw [if_pos rfl] at H; exact H
                 clear H
                 have H := H1
                 clear H1
                 by_cases c75 : t347 = 0
                 ·rw [if_pos c75] at H
                  have c75b0 : (t347 == 0) = true := beq_iff_eq.mpr c75
                  have c75b1 : (t347 != 0) = false := bne_eq_false_iff_eq.mpr c75
                  clear c75
                  by_cases c76 : t357 = 0
                  ·rw [if_pos c76] at H
                   have c76b0 : (t357 == 0) = true := beq_iff_eq.mpr c76
                   have c76b1 : (t357 != 0) = false := bne_eq_false_iff_eq.mpr c76
                   clear c76
                   replace H := Option.bind_eq_some_iff.mp H
                   obtain ⟨t370, A770, H⟩ := H
                   replace H : (if t370 = true then ((tensor_Equal_fix_F.f kj44 t351 t354 l0_2 l0_3).bind fun t371 => (if t371 = true then ((athanorlaw04_awake.f kj44).bind fun t372 => (some t372)) else (none))) else (none)) = some r := H
                   have A77 := Aside0.mk A770
                   clear A770
                   by_cases c78 : t370 = true
                   ·subst c78
                    have H1 : ((tensor_Equal_fix_F.f kj44 t351 t354 l0_2 l0_3).bind fun t371 => (if t371 = true then ((athanorlaw04_awake.f kj44).bind fun t372 => (some t372)) else (none))) = some r := by rw [if_pos rfl] at H; exact H
                    clear H
                    have H := H1
                    clear H1
                    replace H := Option.bind_eq_some_iff.mp H
                    obtain ⟨t371, A790, H⟩ := H
                    replace H : (if t371 = true then ((athanorlaw04_awake.f kj44).bind fun t372 => (some t372)) else (none)) = some r := H
                    have A79 := Aside0.mk A790
                    clear A790
                    by_cases c80 : t371 = true
                    ·subst c80
                     have H1 : ((athanorlaw04_awake.f kj44).bind fun t372 => (some t372)) = some r := by rw [if_pos rfl] at H; exact H
                     clear H
                     have H := H1
                     clear H1
                     replace H := Option.bind_eq_some_iff.mp H
                     obtain ⟨t372, A810, H⟩ := H
                     replace H : (some t372) = some r := H
                     have A81 := Aside0.mk A810
                     clear A810
                     as_aux_lemma =>
                      obtain rfl := Option.some.inj H
                      try go_wp2
                      have n0_ := aM (Kd.R_drew HO_5.out)
                      have n1_ := aM (Kd.R_drew HO_332000.out)
                      have n2_ := aM (Kd.R_drew HO_332001.out)
                      have n3_ := aM (blk_drew BK320.out)
                      have n4_ := aM (blk_drew BK331.out)
                      have n5_ := aM (below_drew1 HB.out)
                      clear HO_5
                      clear HO_332000
                      clear HO_332001
                      clear BK320
                      clear BK331
                      clear HB
                      have HO_5 := n0_
                      have HO_332000 := n1_
                      have HO_332001 := n2_
                      have BK320 := n3_
                      have BK331 := n4_
                      have HB := n5_
                      clear n0_ n1_ n2_ n3_ n4_ n5_
                      have p340 : 0 ≤ (a0_4 : Int) := of_decide_eq_true (by first | (with_reducible assumption) | assumption)
                      have q340 : a0_4 < (l0_0.length : Int) := of_decide_eq_true (by first | (with_reducible assumption) | assumption)
                      obtain ⟨ad340, e340, hx340_0⟩ := Kd.at_int HR0_0.out a0_4 p340 q340
                      have hw340_0 := hx340_0
                      cases e340
                      replace hx340_0 := (HB.out.cell (World.block_lt_of_cell? w _ hx340_0)).trans hx340_0
                      replace p340 := eq_true p340
                      replace q340 := eq_true q340
                      refine start_ (n := 17) (S := fun w' => w'.cell? ⟨gb331, 0, none⟩ = some (.slice Ao21 t324.length co21) ∧ w'.cell? ⟨gb331, 1, none⟩ = some (.slice Ao24 t327.length co24) ∧ w'.cell? ⟨gb320, 0, none⟩ = some (.slice (some ad340) l0_0.length c0_0) ∧ w'.cell? ⟨gb320, 1, none⟩ = some (.slice A0_1 l0_1.length c0_1) ∧ w'.cell? ⟨gb320, 2, none⟩ = some (.slice A0_2 l0_2.length c0_2) ∧ w'.cell? ⟨gb320, 3, none⟩ = some (.slice A0_3 l0_3.length c0_3) ∧ w'.cell? ⟨gb320, 4, none⟩ = some (.int .i64 a0_4) ∧ w'.cell? ⟨gb320, 5, none⟩ = some (.int .i64 a0_5) ∧ w'.cell? ⟨gb320, 6, none⟩ = some (.int .i64 a0_6) ∧ w'.cell? (ad340.add (a0_4).toNat) = some (.int .i64 (rd l0_0 a0_4))) (ds := []) #[false, false, false, false, false, false, false, false, false, false, false, false, false, false, false, false, false] (by kernel_rfl) rfl rfl ⟨(blk_cell BK331.out 0).trans rfl, (blk_cell BK331.out 1).trans rfl, (blk_cell BK320.out 0).trans rfl, (blk_cell BK320.out 1).trans rfl, (blk_cell BK320.out 2).trans rfl, (blk_cell BK320.out 3).trans rfl, (blk_cell BK320.out 4).trans rfl, (blk_cell BK320.out 5).trans rfl, (blk_cell BK320.out 6).trans rfl, ((HB.out.cell (World.block_lt_of_cell? w _ hw340_0)).trans hw340_0)⟩ (fun hHeld => ?_); refine with_tabW athanorlaw04_TensorJoins.tab11 athanorlaw04_TensorJoins.bits11 (fun HT_ HW_ => ?_)
                      generalize wc.drew = w82 at HO_5 HO_332000 HO_332001 BK320 BK331 HB hx340_0 hHeld ⊢
                      refine pure_ (i := 1) (N := some 111) (JoinW.bA 17 2) rfl rfl (any_of HT_.out (by kernel_rfl)) (fun _ _ _ h => h) (Or.inl ⟨by rfl, by intro w'; go_simp; with_reducible rfl⟩) (by simp only [Act.put, List.setIfInBounds_toArray, List.set_cons_zero, List.set_cons_succ, i64_w, i32_w]; rfl) ?_
                      refine pure_ (i := 3) (N := some 113) (JoinW.bA 17 10) rfl rfl (any_of HT_.out (by kernel_rfl)) (fun _ _ _ h => h) (Or.inl ⟨by rfl, by intro w'; go_simp; with_reducible rfl⟩) (by simp only [Act.put, List.setIfInBounds_toArray, List.set_cons_zero, List.set_cons_succ, i64_w, i32_w]; rfl) ?_
                      refine pure_ (i := 4) (N := some 114) (JoinW.bA 17 26) rfl rfl (any_of HT_.out (by kernel_rfl)) (fun _ _ _ h => h) (Or.inl ⟨by rfl, by intro w'; go_simp; with_reducible rfl⟩) (by simp only [Act.put, List.setIfInBounds_toArray, List.set_cons_zero, List.set_cons_succ, i64_w, i32_w]; rfl) ?_
                      refine pure_ (i := 6) (N := some 116) (JoinW.bA 17 90) rfl rfl (any_of HT_.out (by kernel_rfl)) (fun _ _ _ h => h) (Or.inl ⟨by rfl, by intro w'; go_simp; with_reducible rfl⟩) (by simp only [Act.put, List.setIfInBounds_toArray, List.set_cons_zero, List.set_cons_succ, i64_w, i32_w]; rfl) ?_
                      refine take_ (i := 0) (N := some 110) (JoinW.bA 17 91) rfl rfl (take_ofW HT_.out HW_.out (by kernel_rfl)) (fun _ _ _ h => h) (Or.inl ⟨by rfl, by rintro w' ⟨s0, s1, s2, s3, s4, s5, s6, s7, s8, s9⟩; go_simp; with_reducible rfl⟩) hHeld (by simp only [Act.put, List.setIfInBounds_toArray, List.set_cons_zero, List.set_cons_succ, i64_w, i32_w]; rfl) ?_
                      refine take_ (i := 2) (N := some 112) (JoinW.bA 17 95) rfl rfl (take_ofW HT_.out HW_.out (by kernel_rfl)) (fun _ _ _ h => h) (Or.inl ⟨by rfl, by rintro w' ⟨s0, s1, s2, s3, s4, s5, s6, s7, s8, s9⟩; go_simp; with_reducible rfl⟩) hHeld (by simp only [Act.put, List.setIfInBounds_toArray, List.set_cons_zero, List.set_cons_succ, i64_w, i32_w]; rfl) ?_
                      refine take_ (i := 5) (N := some 115) (JoinW.bA 17 127) rfl rfl (take_ofW HT_.out HW_.out (by kernel_rfl)) (fun _ _ _ h => h) (Or.inl ⟨by rfl, by rintro w' ⟨s0, s1, s2, s3, s4, s5, s6, s7, s8, s9⟩; go_simp; with_reducible rfl⟩) hHeld (by simp only [Act.put, List.setIfInBounds_toArray, List.set_cons_zero, List.set_cons_succ, i64_w, i32_w]; rfl) ?_
                      refine take_ (i := 7) (N := some 117) (JoinW.bA 17 255) rfl rfl (take_ofW HT_.out HW_.out (by kernel_rfl)) (fun _ _ _ h => h) (Or.inl ⟨by rfl, by rintro w' ⟨s0, s1, s2, s3, s4, s5, s6, s7, s8, s9⟩; go_simp; with_reducible rfl⟩) hHeld (by simp only [Act.put, List.setIfInBounds_toArray, List.set_cons_zero, List.set_cons_succ, i64_w, i32_w]; rfl) ?_
                      refine pure_ (i := 8) (N := some 118) (JoinW.bA 17 511) rfl rfl (any_of HT_.out (by kernel_rfl)) (fun _ _ _ h => h) (Or.inl ⟨by rfl, by intro w'; go_simp; with_reducible rfl⟩) (by simp only [Act.put, List.setIfInBounds_toArray, List.set_cons_zero, List.set_cons_succ, i64_w, i32_w]; rfl) ?_
                      refine take_ (i := 9) (N := some 119) (JoinW.bA 17 1023) rfl rfl (take_ofW HT_.out HW_.out (by kernel_rfl)) (fun _ _ _ h => h) (Or.inl ⟨by rfl, by rintro w' ⟨s0, s1, s2, s3, s4, s5, s6, s7, s8, s9⟩; go_simp; with_reducible rfl⟩) hHeld (by simp only [Act.put, List.setIfInBounds_toArray, List.set_cons_zero, List.set_cons_succ, i64_w, i32_w]; rfl) ?_
                      refine join_ (σ := Value × Value × Nat) 2 #[true, true, true, true, true, true, true, true, true, true, true, true, true, true, true, false, false] (fun s_ => [(120, .tuple #[.agg #[s_.1, s_.2.1], .int .i64 t347]), (7, .pointer (some ⟨s_.2.2, 0, none⟩)), (109, .tuple #[.agg #[s_.1, s_.2.1], .int .i64 t347]), (121, .agg #[s_.1, s_.2.1]), (122, .int .i64 t347)]) (fun s_ w' => (w'.cell? ⟨gb331, 0, none⟩ = some (.slice Ao21 t324.length co21) ∧ w'.cell? ⟨gb331, 1, none⟩ = some (.slice Ao24 t327.length co24) ∧ w'.cell? ⟨gb320, 0, none⟩ = some (.slice (some ad340) l0_0.length c0_0) ∧ w'.cell? ⟨gb320, 1, none⟩ = some (.slice A0_1 l0_1.length c0_1) ∧ w'.cell? ⟨gb320, 2, none⟩ = some (.slice A0_2 l0_2.length c0_2) ∧ w'.cell? ⟨gb320, 3, none⟩ = some (.slice A0_3 l0_3.length c0_3) ∧ w'.cell? ⟨gb320, 4, none⟩ = some (.int .i64 a0_4) ∧ w'.cell? ⟨gb320, 5, none⟩ = some (.int .i64 a0_5) ∧ w'.cell? ⟨gb320, 6, none⟩ = some (.int .i64 a0_6) ∧ w'.cell? (ad340.add (a0_4).toNat) = some (.int .i64 (rd l0_0 a0_4))) ∧ (Kd.R (Kd.int .i64) 3 w' w.heap.size (fun k_ => some k_ ≠ (.slice Ao21 t324.length co21 : Value).ownBlock ∧ some k_ ≠ (v337 : Value).ownBlock) s_.1 t341) ∧ (Kd.R (Kd.int .i64) 27 w' w.heap.size (fun k_ => some k_ ≠ (.slice Ao24 t327.length co24 : Value).ownBlock) s_.2.1 t344) ∧ (Kd.R (Kd.int .i64) 3 w' w.heap.size (fun k_ => some k_ ≠ (s_.1 : Value).ownBlock ∧ some k_ ≠ (v337 : Value).ownBlock) (.slice Ao21 t324.length co21) t324) ∧ (Kd.R (Kd.int .i64) 27 w' w.heap.size (fun k_ => some k_ ≠ (s_.2.1 : Value).ownBlock) (.slice Ao24 t327.length co24) t327) ∧ (Kd.R (Kd.int .i64) 3 w' w.heap.size (fun k_ => some k_ ≠ (s_.1 : Value).ownBlock ∧ some k_ ≠ (.slice Ao21 t324.length co21 : Value).ownBlock) v337 t335) ∧ (w'.heap[gb320]? = some (.cells #[.slice (some ad340) l0_0.length c0_0, .slice A0_1 l0_1.length c0_1, .slice A0_2 l0_2.length c0_2, .slice A0_3 l0_3.length c0_3, .int .i64 a0_4, .int .i64 a0_5, .int .i64 a0_6] 47 (0, 0))) ∧ (w'.heap[gb331]? = some (.cells #[.slice Ao21 t324.length co21, .slice Ao24 t327.length co24] 26 (0, 0))) ∧ (w'.heap[s_.2.2]? = some (.cells #[.slice none 0 0, .slice none 0 0] 26 (0, 0))) ∧ (w.heap.size ≤ s_.2.2) ∧ (w.heap.size ≤ s_.2.2) ∧ (gb320 ≠ s_.2.2) ∧ (s_.2.2 ≠ gb320) ∧ (gb331 ≠ s_.2.2) ∧ (s_.2.2 ≠ gb331) ∧ (Below w.heap.size w w')) ?_ ?_
                      rotate_left
                      ·intro hCont
                       refine two_ (i := 10) (j := 14) (Ni := some 120) (Nj := some 7) (JoinW.bA 17 2047) (JoinW.bA 17 17407) rfl rfl rfl rfl (two_of HT_.out (by kernel_rfl)) (by decide) (by decide) (fun K hK => ?_) (fun K hK => ?_)
                       ·skip
                        refine goes_ Try.func28 (by kernel_rfl) rfl #[.agg #[.slice Ao21 t324.length co21, .slice Ao24 t327.length co24], .int .i64 a0_4, .int .i64 0, .int .i64 (rd l0_0 a0_4)] (by rfl) rfl rfl (by (try simp only [List.map_toArray, List.map_cons, List.map_nil]); first | done | rfl | (simp only [List.length_drop, List.length_take]; rfl)) ?_
                        with_reducible refine (tensor_Grid_fix_F_Cut.calls _ _ t324 _ _ t327 a0_4 0 (rd l0_0 a0_4) t341 t344 t347 _ ?side1 ?side2 ?side3 ?side4 A64.out).mono ?_
                        (case side1 => repeat (first|exact (Kd.R_reads' HO_332000.out).2.2 | with_reducible first|apply cA|apply cN|apply cD))
                        (case side2 => exact (Kd.R_reads' HO_332000.out).2.1)
                        (case side3 => repeat (first|exact (Kd.R_reads' HO_332001.out).2.2 | with_reducible first|apply cA|apply cN|apply cD))
                        (case side4 => exact (Kd.R_reads' HO_332001.out).2.1)
                        rintro e w83 ⟨v342, v345, rfl, ho0, ho1, hb⟩
                        refine ⟨_, rfl, ?_⟩
                        have n0_ := aM (Kd.R_elder' (by (with_reducible repeat (first|apply rA|apply rN|apply rD)); exact HO_5.out) (Kd.R_base ho0) hb)
                        have n1_ := aM (Kd.R_elder' (by (with_reducible repeat (first|apply rA|apply rN|apply rD)); exact HO_332000.out) (Kd.R_base ho0) hb)
                        have n2_ := aM (Kd.R_elder' (by (with_reducible repeat (first|apply rA|apply rN|apply rD)); exact HO_332001.out) (Kd.R_base ho1) hb)
                        have n3_ := aM (Kd.R_lower (Kd.R_new' (Kd.R_new' ho0 (Kd.R_lt (by (with_reducible repeat (first|apply rA|apply rN|apply rD)); exact HO_5.out))) (Kd.R_lt (by (with_reducible repeat (first|apply rA|apply rN|apply rD)); exact HO_332000.out))) (below_size (by repeat (first | (with_reducible first|exact HB.out|apply bA|apply bN|apply bD|refine bS ?_ GE320.out|refine bS ?_ GE331.out)|exact HB.out))))
                        have n4_ := aM (Kd.R_lower (Kd.R_new' ho1 (Kd.R_lt (by (with_reducible repeat (first|apply rA|apply rN|apply rD)); exact HO_332001.out))) (below_size (by repeat (first | (with_reducible first|exact HB.out|apply bA|apply bN|apply bD|refine bS ?_ GE320.out|refine bS ?_ GE331.out)|exact HB.out))))
                        have n5_ := aM (blk_below (g := gb320) (o := .cells #[.slice (some ad340) l0_0.length c0_0, .slice A0_1 l0_1.length c0_1, .slice A0_2 l0_2.length c0_2, .slice A0_3 l0_3.length c0_3, .int .i64 a0_4, .int .i64 a0_5, .int .i64 a0_6] 47 (0, 0)) (by (with_reducible repeat (first|apply kN|apply kD|apply kA)); exact BK320.out) hb)
                        have n6_ := aM (blk_below (g := gb331) (o := .cells #[.slice Ao21 t324.length co21, .slice Ao24 t327.length co24] 26 (0, 0)) (by (with_reducible repeat (first|apply kN|apply kD|apply kA)); exact BK331.out) hb)
                        have n7_ := aM (below_step (by repeat (first | (with_reducible first|exact HB.out|apply bA|apply bN|apply bD|refine bS ?_ GE320.out|refine bS ?_ GE331.out)|exact HB.out)) hb)
                        clear HO_5
                        clear HO_332000
                        clear HO_332001
                        clear BK320
                        clear BK331
                        clear HB
                        have HO_5 := n0_
                        have HO_332000 := n1_
                        have HO_332001 := n2_
                        have HO343 := n3_
                        have HO346 := n4_
                        have BK320 := n5_
                        have BK331 := n6_
                        have HB := n7_
                        clear n0_ n1_ n2_ n3_ n4_ n5_ n6_ n7_
                        (try clear hb)
                        skip
                        (try clear hk)
                        skip
                        (try clear ho0)
                        (try clear ho1)
                        refine hK.out _ _ ⟨(blk_cell BK331.out 0).trans rfl, (blk_cell BK331.out 1).trans rfl, (blk_cell BK320.out 0).trans rfl, (blk_cell BK320.out 1).trans rfl, (blk_cell BK320.out 2).trans rfl, (blk_cell BK320.out 3).trans rfl, (blk_cell BK320.out 4).trans rfl, (blk_cell BK320.out 5).trans rfl, (blk_cell BK320.out 6).trans rfl, ((HB.out.cell (World.block_lt_of_cell? w _ hw340_0)).trans hw340_0)⟩ (fun hHeld => ?_)
                        clear hK K
                        refine norm_ (a' := ?_) ?_ ?_
                        rotate_left
                        ·show Act.put _ (some 120) _ = _
                         simp only [Act.put, List.setIfInBounds_toArray, List.set_cons_zero, List.set_cons_succ, i64_w, i32_w]
                         rfl
                        refine pure_ (i := 11) (N := some 109) (JoinW.bA 17 4095) rfl rfl (any_of HT_.out (by kernel_rfl)) (fun _ _ _ h => h) (Or.inl ⟨by rfl, by intro w'; go_simp; with_reducible rfl⟩) (by simp only [Act.put, List.setIfInBounds_toArray, List.set_cons_zero, List.set_cons_succ, i64_w, i32_w]; rfl) ?_
                        refine pure_ (i := 12) (N := some 121) (JoinW.bA 17 8191) rfl rfl (any_of HT_.out (by kernel_rfl)) (fun _ _ _ h => h) (Or.inl ⟨by rfl, by intro w'; go_simp; with_reducible rfl⟩) (by simp only [Act.put, List.setIfInBounds_toArray, List.set_cons_zero, List.set_cons_succ, i64_w, i32_w]; rfl) ?_
                        refine pure_ (i := 13) (N := some 122) (JoinW.bA 17 16383) rfl rfl (any_of HT_.out (by kernel_rfl)) (fun _ _ _ h => h) (Or.inl ⟨by rfl, by intro w'; go_simp; with_reducible rfl⟩) (by simp only [Act.put, List.setIfInBounds_toArray, List.set_cons_zero, List.set_cons_succ, i64_w, i32_w]; rfl) ?_
                        refine one_ (i := 14) (N := some 7) (JoinW.bA 17 32767) rfl rfl (one_of HT_.out (by kernel_rfl)) (by decide) (fun K hK => ?_)
                        refine box_step ?hg (N := 7) ?hd (cs := #[.slice none 0 0, .slice none 0 0]) (t := 26) ?hr ?_; (case hd => rfl); (case hg => rfl); (case hr => first | (go_simp; done) | (go_simp; rfl))
                        intro gb348 hg w84 hbox hb
                        have n0_ := aM (Kd.R_below (by (with_reducible repeat (first|apply rA|apply rN|apply rD)); exact HO_5.out) hb)
                        have n1_ := aM (Kd.R_below (by (with_reducible repeat (first|apply rA|apply rN|apply rD)); exact HO_332000.out) hb)
                        have n2_ := aM (Kd.R_below (by (with_reducible repeat (first|apply rA|apply rN|apply rD)); exact HO_332001.out) hb)
                        have n3_ := aM (Kd.R_below (by (with_reducible repeat (first|apply rA|apply rN|apply rD)); exact HO343.out) hb)
                        have n4_ := aM (Kd.R_below (by (with_reducible repeat (first|apply rA|apply rN|apply rD)); exact HO346.out) hb)
                        have n5_ := aM (blk_below (g := gb320) (o := .cells #[.slice (some ad340) l0_0.length c0_0, .slice A0_1 l0_1.length c0_1, .slice A0_2 l0_2.length c0_2, .slice A0_3 l0_3.length c0_3, .int .i64 a0_4, .int .i64 a0_5, .int .i64 a0_6] 47 (0, 0)) (by (with_reducible repeat (first|apply kN|apply kD|apply kA)); exact BK320.out) hb)
                        have n6_ := aM (blk_below (g := gb331) (o := .cells #[.slice Ao21 t324.length co21, .slice Ao24 t327.length co24] 26 (0, 0)) (by (with_reducible repeat (first|apply kN|apply kD|apply kA)); exact BK331.out) hb)
                        have n7_ := aM (below_step (by repeat (first | (with_reducible first|exact HB.out|apply bA|apply bN|apply bD|refine bS ?_ GE320.out|refine bS ?_ GE331.out)|exact HB.out)) hb)
                        have n8_ := aM (hbox)
                        have n9_ := aM ((by rw [hg]; exact (below_size (by repeat (first | (with_reducible first|exact HB.out|apply bA|apply bN|apply bD|refine bS ?_ GE320.out|refine bS ?_ GE331.out)|exact HB.out))) : w.heap.size ≤ gb348))
                        have n10_ := aM ((by rw [hg]; exact (below_size (by repeat (first | (with_reducible first|exact HB.out|apply bA|apply bN|apply bD|refine bS ?_ GE320.out|refine bS ?_ GE331.out)|exact HB.out))) : w.heap.size ≤ gb348))
                        have n11_ := aM ((by rw [hg]; exact Nat.ne_of_lt (blk_lt (g := gb320) (o := .cells #[.slice (some ad340) l0_0.length c0_0, .slice A0_1 l0_1.length c0_1, .slice A0_2 l0_2.length c0_2, .slice A0_3 l0_3.length c0_3, .int .i64 a0_4, .int .i64 a0_5, .int .i64 a0_6] 47 (0, 0)) (by (with_reducible repeat (first|apply kN|apply kD|apply kA)); exact BK320.out)) : gb320 ≠ gb348))
                        have n12_ := aM ((by rw [hg]; exact Nat.ne_of_gt (blk_lt (g := gb320) (o := .cells #[.slice (some ad340) l0_0.length c0_0, .slice A0_1 l0_1.length c0_1, .slice A0_2 l0_2.length c0_2, .slice A0_3 l0_3.length c0_3, .int .i64 a0_4, .int .i64 a0_5, .int .i64 a0_6] 47 (0, 0)) (by (with_reducible repeat (first|apply kN|apply kD|apply kA)); exact BK320.out)) : gb348 ≠ gb320))
                        have n13_ := aM ((by rw [hg]; exact Nat.ne_of_lt (blk_lt (g := gb331) (o := .cells #[.slice Ao21 t324.length co21, .slice Ao24 t327.length co24] 26 (0, 0)) (by (with_reducible repeat (first|apply kN|apply kD|apply kA)); exact BK331.out)) : gb331 ≠ gb348))
                        have n14_ := aM ((by rw [hg]; exact Nat.ne_of_gt (blk_lt (g := gb331) (o := .cells #[.slice Ao21 t324.length co21, .slice Ao24 t327.length co24] 26 (0, 0)) (by (with_reducible repeat (first|apply kN|apply kD|apply kA)); exact BK331.out)) : gb348 ≠ gb331))
                        clear HO_5
                        clear HO_332000
                        clear HO_332001
                        clear HO343
                        clear HO346
                        clear BK320
                        clear BK331
                        clear HB
                        have HO_5 := n0_
                        have HO_332000 := n1_
                        have HO_332001 := n2_
                        have HO343 := n3_
                        have HO346 := n4_
                        have BK320 := n5_
                        have BK331 := n6_
                        have HB := n7_
                        have BK348 := n8_
                        have GW348 := n9_
                        have GE348 := n10_
                        have NB320_348 := n11_
                        have NB348_320 := n12_
                        have NB331_348 := n13_
                        have NB348_331 := n14_
                        clear n0_ n1_ n2_ n3_ n4_ n5_ n6_ n7_ n8_ n9_ n10_ n11_ n12_ n13_ n14_
                        clear hb hbox hg
                        refine hK.out _ _ ⟨(blk_cell BK331.out 0).trans rfl, (blk_cell BK331.out 1).trans rfl, (blk_cell BK320.out 0).trans rfl, (blk_cell BK320.out 1).trans rfl, (blk_cell BK320.out 2).trans rfl, (blk_cell BK320.out 3).trans rfl, (blk_cell BK320.out 4).trans rfl, (blk_cell BK320.out 5).trans rfl, (blk_cell BK320.out 6).trans rfl, ((HB.out.cell (World.block_lt_of_cell? w _ hw340_0)).trans hw340_0)⟩ (fun hHeld => ?_)
                        clear hK K
                        refine norm_ (a' := ?_) ?_ ?_
                        rotate_left
                        ·show Act.put _ (some 7) _ = _
                         simp only [Act.put, List.setIfInBounds_toArray, List.set_cons_zero, List.set_cons_succ, i64_w, i32_w]
                         rfl
                        exact norm_ (by simp only [putAll, Act.put, List.setIfInBounds_toArray, List.set_cons_zero, List.set_cons_succ]) (hCont (v342, v345, gb348) _ ⟨hHeld, (by (with_reducible repeat (first|apply rA|apply rN|apply rD)); exact Kd.R_mono HO343.out (fun _ hk => ⟨hk.2, hk.1.2⟩)), (by (with_reducible repeat (first|apply rA|apply rN|apply rD)); exact Kd.R_mono HO346.out (fun _ hk => hk.2)), (by (with_reducible repeat (first|apply rA|apply rN|apply rD)); exact Kd.R_mono HO_332000.out (fun _ hk => ⟨hk.2, hk.1⟩)), (by (with_reducible repeat (first|apply rA|apply rN|apply rD)); exact Kd.R_mono HO_332001.out (fun _ hk => hk.2)), (by (with_reducible repeat (first|apply rA|apply rN|apply rD)); exact Kd.R_mono HO_5.out (fun _ hk => ⟨hk.2, hk.1⟩)), (by (with_reducible repeat (first|apply kN|apply kD|apply kA)); exact BK320.out), (by (with_reducible repeat (first|apply kN|apply kD|apply kA)); exact BK331.out), (by (with_reducible repeat (first|apply kN|apply kD|apply kA)); exact BK348.out), GW348.out, GE348.out, NB320_348.out, NB348_320.out, NB331_348.out, NB348_331.out, (by repeat (first | (with_reducible first|exact HB.out|apply bA|apply bN|apply bD|refine bS ?_ GE320.out|refine bS ?_ GE331.out|refine bS ?_ GE348.out)|exact HB.out))⟩)
                       ·skip
                        refine box_step ?hg (N := 7) ?hd (cs := #[.slice none 0 0, .slice none 0 0]) (t := 26) ?hr ?_; (case hd => rfl); (case hg => rfl); (case hr => first | (go_simp; done) | (go_simp; rfl))
                        intro gb348 hg w83 hbox hb
                        have n0_ := aM (Kd.R_below (by (with_reducible repeat (first|apply rA|apply rN|apply rD)); exact HO_5.out) hb)
                        have n1_ := aM (Kd.R_below (by (with_reducible repeat (first|apply rA|apply rN|apply rD)); exact HO_332000.out) hb)
                        have n2_ := aM (Kd.R_below (by (with_reducible repeat (first|apply rA|apply rN|apply rD)); exact HO_332001.out) hb)
                        have n3_ := aM (blk_below (g := gb320) (o := .cells #[.slice (some ad340) l0_0.length c0_0, .slice A0_1 l0_1.length c0_1, .slice A0_2 l0_2.length c0_2, .slice A0_3 l0_3.length c0_3, .int .i64 a0_4, .int .i64 a0_5, .int .i64 a0_6] 47 (0, 0)) (by (with_reducible repeat (first|apply kN|apply kD|apply kA)); exact BK320.out) hb)
                        have n4_ := aM (blk_below (g := gb331) (o := .cells #[.slice Ao21 t324.length co21, .slice Ao24 t327.length co24] 26 (0, 0)) (by (with_reducible repeat (first|apply kN|apply kD|apply kA)); exact BK331.out) hb)
                        have n5_ := aM (below_step (by repeat (first | (with_reducible first|exact HB.out|apply bA|apply bN|apply bD|refine bS ?_ GE320.out|refine bS ?_ GE331.out)|exact HB.out)) hb)
                        have n6_ := aM (hbox)
                        have n7_ := aM ((by rw [hg]; exact (below_size (by repeat (first | (with_reducible first|exact HB.out|apply bA|apply bN|apply bD|refine bS ?_ GE320.out|refine bS ?_ GE331.out)|exact HB.out))) : w.heap.size ≤ gb348))
                        have n8_ := aM ((by rw [hg]; exact (below_size (by repeat (first | (with_reducible first|exact HB.out|apply bA|apply bN|apply bD|refine bS ?_ GE320.out|refine bS ?_ GE331.out)|exact HB.out))) : w.heap.size ≤ gb348))
                        have n9_ := aM ((by rw [hg]; exact Nat.ne_of_lt (blk_lt (g := gb320) (o := .cells #[.slice (some ad340) l0_0.length c0_0, .slice A0_1 l0_1.length c0_1, .slice A0_2 l0_2.length c0_2, .slice A0_3 l0_3.length c0_3, .int .i64 a0_4, .int .i64 a0_5, .int .i64 a0_6] 47 (0, 0)) (by (with_reducible repeat (first|apply kN|apply kD|apply kA)); exact BK320.out)) : gb320 ≠ gb348))
                        have n10_ := aM ((by rw [hg]; exact Nat.ne_of_gt (blk_lt (g := gb320) (o := .cells #[.slice (some ad340) l0_0.length c0_0, .slice A0_1 l0_1.length c0_1, .slice A0_2 l0_2.length c0_2, .slice A0_3 l0_3.length c0_3, .int .i64 a0_4, .int .i64 a0_5, .int .i64 a0_6] 47 (0, 0)) (by (with_reducible repeat (first|apply kN|apply kD|apply kA)); exact BK320.out)) : gb348 ≠ gb320))
                        have n11_ := aM ((by rw [hg]; exact Nat.ne_of_lt (blk_lt (g := gb331) (o := .cells #[.slice Ao21 t324.length co21, .slice Ao24 t327.length co24] 26 (0, 0)) (by (with_reducible repeat (first|apply kN|apply kD|apply kA)); exact BK331.out)) : gb331 ≠ gb348))
                        have n12_ := aM ((by rw [hg]; exact Nat.ne_of_gt (blk_lt (g := gb331) (o := .cells #[.slice Ao21 t324.length co21, .slice Ao24 t327.length co24] 26 (0, 0)) (by (with_reducible repeat (first|apply kN|apply kD|apply kA)); exact BK331.out)) : gb348 ≠ gb331))
                        clear HO_5
                        clear HO_332000
                        clear HO_332001
                        clear BK320
                        clear BK331
                        clear HB
                        have HO_5 := n0_
                        have HO_332000 := n1_
                        have HO_332001 := n2_
                        have BK320 := n3_
                        have BK331 := n4_
                        have HB := n5_
                        have BK348 := n6_
                        have GW348 := n7_
                        have GE348 := n8_
                        have NB320_348 := n9_
                        have NB348_320 := n10_
                        have NB331_348 := n11_
                        have NB348_331 := n12_
                        clear n0_ n1_ n2_ n3_ n4_ n5_ n6_ n7_ n8_ n9_ n10_ n11_ n12_
                        clear hb hbox hg
                        refine hK.out _ _ ⟨(blk_cell BK331.out 0).trans rfl, (blk_cell BK331.out 1).trans rfl, (blk_cell BK320.out 0).trans rfl, (blk_cell BK320.out 1).trans rfl, (blk_cell BK320.out 2).trans rfl, (blk_cell BK320.out 3).trans rfl, (blk_cell BK320.out 4).trans rfl, (blk_cell BK320.out 5).trans rfl, (blk_cell BK320.out 6).trans rfl, ((HB.out.cell (World.block_lt_of_cell? w _ hw340_0)).trans hw340_0)⟩ (fun hHeld => ?_)
                        clear hK K
                        refine norm_ (a' := ?_) ?_ ?_
                        rotate_left
                        ·show Act.put _ (some 7) _ = _
                         simp only [Act.put, List.setIfInBounds_toArray, List.set_cons_zero, List.set_cons_succ, i64_w, i32_w]
                         rfl
                        refine one_ (i := 10) (N := some 120) (JoinW.bA 17 18431) rfl rfl (one_of HT_.out (by kernel_rfl)) (by decide) (fun K hK => ?_)
                        refine goes_ Try.func28 (by kernel_rfl) rfl #[.agg #[.slice Ao21 t324.length co21, .slice Ao24 t327.length co24], .int .i64 a0_4, .int .i64 0, .int .i64 (rd l0_0 a0_4)] (by rfl) rfl rfl (by (try simp only [List.map_toArray, List.map_cons, List.map_nil]); first | done | rfl | (simp only [List.length_drop, List.length_take]; rfl)) ?_
                        with_reducible refine (tensor_Grid_fix_F_Cut.calls _ _ t324 _ _ t327 a0_4 0 (rd l0_0 a0_4) t341 t344 t347 _ ?side1 ?side2 ?side3 ?side4 A64.out).mono ?_
                        (case side1 => repeat (first|exact (Kd.R_reads' HO_332000.out).2.2 | with_reducible first|apply cA|apply cN|apply cD))
                        (case side2 => exact (Kd.R_reads' HO_332000.out).2.1)
                        (case side3 => repeat (first|exact (Kd.R_reads' HO_332001.out).2.2 | with_reducible first|apply cA|apply cN|apply cD))
                        (case side4 => exact (Kd.R_reads' HO_332001.out).2.1)
                        rintro e w84 ⟨v342, v345, rfl, ho0, ho1, hb⟩
                        refine ⟨_, rfl, ?_⟩
                        have n0_ := aM (Kd.R_elder' (by (with_reducible repeat (first|apply rA|apply rN|apply rD)); exact HO_5.out) (Kd.R_base ho0) hb)
                        have n1_ := aM (Kd.R_elder' (by (with_reducible repeat (first|apply rA|apply rN|apply rD)); exact HO_332000.out) (Kd.R_base ho0) hb)
                        have n2_ := aM (Kd.R_elder' (by (with_reducible repeat (first|apply rA|apply rN|apply rD)); exact HO_332001.out) (Kd.R_base ho1) hb)
                        have n3_ := aM (Kd.R_lower (Kd.R_new' (Kd.R_new' ho0 (Kd.R_lt (by (with_reducible repeat (first|apply rA|apply rN|apply rD)); exact HO_5.out))) (Kd.R_lt (by (with_reducible repeat (first|apply rA|apply rN|apply rD)); exact HO_332000.out))) (below_size (by repeat (first | (with_reducible first|exact HB.out|apply bA|apply bN|apply bD|refine bS ?_ GE320.out|refine bS ?_ GE331.out|refine bS ?_ GE348.out)|exact HB.out))))
                        have n4_ := aM (Kd.R_lower (Kd.R_new' ho1 (Kd.R_lt (by (with_reducible repeat (first|apply rA|apply rN|apply rD)); exact HO_332001.out))) (below_size (by repeat (first | (with_reducible first|exact HB.out|apply bA|apply bN|apply bD|refine bS ?_ GE320.out|refine bS ?_ GE331.out|refine bS ?_ GE348.out)|exact HB.out))))
                        have n5_ := aM (blk_below (g := gb320) (o := .cells #[.slice (some ad340) l0_0.length c0_0, .slice A0_1 l0_1.length c0_1, .slice A0_2 l0_2.length c0_2, .slice A0_3 l0_3.length c0_3, .int .i64 a0_4, .int .i64 a0_5, .int .i64 a0_6] 47 (0, 0)) (by (with_reducible repeat (first|apply kN|apply kD|apply kA)); exact BK320.out) hb)
                        have n6_ := aM (blk_below (g := gb331) (o := .cells #[.slice Ao21 t324.length co21, .slice Ao24 t327.length co24] 26 (0, 0)) (by (with_reducible repeat (first|apply kN|apply kD|apply kA)); exact BK331.out) hb)
                        have n7_ := aM (blk_below (g := gb348) (o := .cells #[.slice none 0 0, .slice none 0 0] 26 (0, 0)) (by (with_reducible repeat (first|apply kN|apply kD|apply kA)); exact BK348.out) hb)
                        have n8_ := aM (below_step (by repeat (first | (with_reducible first|exact HB.out|apply bA|apply bN|apply bD|refine bS ?_ GE320.out|refine bS ?_ GE331.out|refine bS ?_ GE348.out)|exact HB.out)) hb)
                        clear HO_5
                        clear HO_332000
                        clear HO_332001
                        clear BK320
                        clear BK331
                        clear BK348
                        clear HB
                        have HO_5 := n0_
                        have HO_332000 := n1_
                        have HO_332001 := n2_
                        have HO343 := n3_
                        have HO346 := n4_
                        have BK320 := n5_
                        have BK331 := n6_
                        have BK348 := n7_
                        have HB := n8_
                        clear n0_ n1_ n2_ n3_ n4_ n5_ n6_ n7_ n8_
                        (try clear hb)
                        skip
                        (try clear hk)
                        skip
                        (try clear ho0)
                        (try clear ho1)
                        refine hK.out _ _ ⟨(blk_cell BK331.out 0).trans rfl, (blk_cell BK331.out 1).trans rfl, (blk_cell BK320.out 0).trans rfl, (blk_cell BK320.out 1).trans rfl, (blk_cell BK320.out 2).trans rfl, (blk_cell BK320.out 3).trans rfl, (blk_cell BK320.out 4).trans rfl, (blk_cell BK320.out 5).trans rfl, (blk_cell BK320.out 6).trans rfl, ((HB.out.cell (World.block_lt_of_cell? w _ hw340_0)).trans hw340_0)⟩ (fun hHeld => ?_)
                        clear hK K
                        refine norm_ (a' := ?_) ?_ ?_
                        rotate_left
                        ·show Act.put _ (some 120) _ = _
                         simp only [Act.put, List.setIfInBounds_toArray, List.set_cons_zero, List.set_cons_succ, i64_w, i32_w]
                         rfl
                        refine pure_ (i := 11) (N := some 109) (JoinW.bA 17 20479) rfl rfl (any_of HT_.out (by kernel_rfl)) (fun _ _ _ h => h) (Or.inl ⟨by rfl, by intro w'; go_simp; with_reducible rfl⟩) (by simp only [Act.put, List.setIfInBounds_toArray, List.set_cons_zero, List.set_cons_succ, i64_w, i32_w]; rfl) ?_
                        refine pure_ (i := 12) (N := some 121) (JoinW.bA 17 24575) rfl rfl (any_of HT_.out (by kernel_rfl)) (fun _ _ _ h => h) (Or.inl ⟨by rfl, by intro w'; go_simp; with_reducible rfl⟩) (by simp only [Act.put, List.setIfInBounds_toArray, List.set_cons_zero, List.set_cons_succ, i64_w, i32_w]; rfl) ?_
                        refine pure_ (i := 13) (N := some 122) (JoinW.bA 17 32767) rfl rfl (any_of HT_.out (by kernel_rfl)) (fun _ _ _ h => h) (Or.inl ⟨by rfl, by intro w'; go_simp; with_reducible rfl⟩) (by simp only [Act.put, List.setIfInBounds_toArray, List.set_cons_zero, List.set_cons_succ, i64_w, i32_w]; rfl) ?_
                        exact norm_ (by simp only [putAll, Act.put, List.setIfInBounds_toArray, List.set_cons_zero, List.set_cons_succ]) (hCont (v342, v345, gb348) _ ⟨hHeld, (by (with_reducible repeat (first|apply rA|apply rN|apply rD)); exact Kd.R_mono HO343.out (fun _ hk => ⟨hk.2, hk.1.2⟩)), (by (with_reducible repeat (first|apply rA|apply rN|apply rD)); exact Kd.R_mono HO346.out (fun _ hk => hk.2)), (by (with_reducible repeat (first|apply rA|apply rN|apply rD)); exact Kd.R_mono HO_332000.out (fun _ hk => ⟨hk.2, hk.1⟩)), (by (with_reducible repeat (first|apply rA|apply rN|apply rD)); exact Kd.R_mono HO_332001.out (fun _ hk => hk.2)), (by (with_reducible repeat (first|apply rA|apply rN|apply rD)); exact Kd.R_mono HO_5.out (fun _ hk => ⟨hk.2, hk.1⟩)), (by (with_reducible repeat (first|apply kN|apply kD|apply kA)); exact BK320.out), (by (with_reducible repeat (first|apply kN|apply kD|apply kA)); exact BK331.out), (by (with_reducible repeat (first|apply kN|apply kD|apply kA)); exact BK348.out), GW348.out, GE348.out, NB320_348.out, NB348_320.out, NB331_348.out, NB348_331.out, (by repeat (first | (with_reducible first|exact HB.out|apply bA|apply bN|apply bD|refine bS ?_ GE320.out|refine bS ?_ GE331.out|refine bS ?_ GE348.out)|exact HB.out))⟩)
                      rintro ⟨v342, v345, gb348⟩ w85 ⟨hS_, h0_, h1_, h2_, h3_, h4_, h5_, h6_, h7_, h8_, h9_, h10_, h11_, h12_, h13_, h14_⟩
                      have n0_ : Aside0 (Kd.R (Kd.int .i64) 3 w85 w.heap.size (fun k_ => some k_ ≠ (.slice Ao21 t324.length co21 : Value).ownBlock ∧ some k_ ≠ (v337 : Value).ownBlock) v342 t341) := ⟨h0_⟩
                      have n1_ : Aside0 (Kd.R (Kd.int .i64) 27 w85 w.heap.size (fun k_ => some k_ ≠ (.slice Ao24 t327.length co24 : Value).ownBlock) v345 t344) := ⟨h1_⟩
                      have n2_ : Aside0 (Kd.R (Kd.int .i64) 3 w85 w.heap.size (fun k_ => some k_ ≠ (v342 : Value).ownBlock ∧ some k_ ≠ (v337 : Value).ownBlock) (.slice Ao21 t324.length co21) t324) := ⟨h2_⟩
                      have n3_ : Aside0 (Kd.R (Kd.int .i64) 27 w85 w.heap.size (fun k_ => some k_ ≠ (v345 : Value).ownBlock) (.slice Ao24 t327.length co24) t327) := ⟨h3_⟩
                      have n4_ : Aside0 (Kd.R (Kd.int .i64) 3 w85 w.heap.size (fun k_ => some k_ ≠ (v342 : Value).ownBlock ∧ some k_ ≠ (.slice Ao21 t324.length co21 : Value).ownBlock) v337 t335) := ⟨h4_⟩
                      have n5_ : Aside0 (w85.heap[gb320]? = some (.cells #[.slice (some ad340) l0_0.length c0_0, .slice A0_1 l0_1.length c0_1, .slice A0_2 l0_2.length c0_2, .slice A0_3 l0_3.length c0_3, .int .i64 a0_4, .int .i64 a0_5, .int .i64 a0_6] 47 (0, 0))) := ⟨h5_⟩
                      have n6_ : Aside0 (w85.heap[gb331]? = some (.cells #[.slice Ao21 t324.length co21, .slice Ao24 t327.length co24] 26 (0, 0))) := ⟨h6_⟩
                      have n7_ : Aside0 (w85.heap[gb348]? = some (.cells #[.slice none 0 0, .slice none 0 0] 26 (0, 0))) := ⟨h7_⟩
                      have n8_ : Aside0 (w.heap.size ≤ gb348) := ⟨h8_⟩
                      have n9_ : Aside0 (w.heap.size ≤ gb348) := ⟨h9_⟩
                      have n10_ : Aside0 (gb320 ≠ gb348) := ⟨h10_⟩
                      have n11_ : Aside0 (gb348 ≠ gb320) := ⟨h11_⟩
                      have n12_ : Aside0 (gb331 ≠ gb348) := ⟨h12_⟩
                      have n13_ : Aside0 (gb348 ≠ gb331) := ⟨h13_⟩
                      have n14_ : Aside0 (Below w.heap.size w w85) := ⟨h14_⟩
                      clear HO_5
                      clear HO_332000
                      clear HO_332001
                      clear BK320
                      clear BK331
                      clear HB
                      clear h0_ h1_ h2_ h3_ h4_ h5_ h6_ h7_ h8_ h9_ h10_ h11_ h12_ h13_ h14_
                      have HO343 := n0_
                      have HO346 := n1_
                      have HO_332000 := n2_
                      have HO_332001 := n3_
                      have HO_5 := n4_
                      have BK320 := n5_
                      have BK331 := n6_
                      have BK348 := n7_
                      have GW348 := n8_
                      have GE348 := n9_
                      have NB320_348 := n10_
                      have NB348_320 := n11_
                      have NB331_348 := n12_
                      have NB348_331 := n13_
                      have HB := n14_
                      clear n0_ n1_ n2_ n3_ n4_ n5_ n6_ n7_ n8_ n9_ n10_ n11_ n12_ n13_ n14_
                      have hHeld : w85.cell? ⟨gb331, 0, none⟩ = some (.slice Ao21 t324.length co21) ∧ w85.cell? ⟨gb331, 1, none⟩ = some (.slice Ao24 t327.length co24) ∧ w85.cell? ⟨gb320, 0, none⟩ = some (.slice (some ad340) l0_0.length c0_0) ∧ w85.cell? ⟨gb320, 1, none⟩ = some (.slice A0_1 l0_1.length c0_1) ∧ w85.cell? ⟨gb320, 2, none⟩ = some (.slice A0_2 l0_2.length c0_2) ∧ w85.cell? ⟨gb320, 3, none⟩ = some (.slice A0_3 l0_3.length c0_3) ∧ w85.cell? ⟨gb320, 4, none⟩ = some (.int .i64 a0_4) ∧ w85.cell? ⟨gb320, 5, none⟩ = some (.int .i64 a0_5) ∧ w85.cell? ⟨gb320, 6, none⟩ = some (.int .i64 a0_6) ∧ w85.cell? (ad340.add (a0_4).toNat) = some (.int .i64 (rd l0_0 a0_4)) := hS_
                      obtain ⟨Ao86, co86, eo86⟩ := Kd.R_slice HO343.out
                      (first | subst eo86 | (injection eo86 with f1_ f2_ f3_; have f4_ := f1_.symm; have f5_ := f3_.symm; clear f1_ f2_ f3_; subst f4_; subst f5_))
                      obtain ⟨Ao88, co88, eo88⟩ := Kd.R_slice HO346.out
                      (first | subst eo88 | (injection eo88 with f1_ f2_ f3_; have f4_ := f1_.symm; have f5_ := f3_.symm; clear f1_ f2_ f3_; subst f4_; subst f5_))
                      refine norm_ (a' := ?_) ?_ ?_
                      rotate_left
                      ·simp only [putAll, Act.put, List.setIfInBounds_toArray, List.set_cons_zero, List.set_cons_succ]
                       rfl
                      refine one_ (i := 15) (N := none) (JoinW.bA 17 65535) rfl rfl (one_of HT_.out (by kernel_rfl)) (by decide) (fun K hK => ?_)
                      have hs87 : w85.cell? ⟨gb348, 0, none⟩ = some (.slice none 0 0) := (blk_cell BK348.out 0).trans rfl
                      have hfs87 := blk_frozen BK348.out 0
                      have hns87_0 := NB320_348.out
                      have hns87_1 := NB331_348.out
                      have hms87_0 := NB348_320.out
                      have hms87_1 := NB348_331.out
                      have hs89 : w85.cell? ⟨gb348, 1, none⟩ = some (.slice none 0 0) := (blk_cell BK348.out 1).trans rfl
                      have hfs89 := blk_frozen BK348.out 1
                      have hns89_0 := NB320_348.out
                      have hns89_1 := NB331_348.out
                      have hms89_0 := NB348_320.out
                      have hms89_1 := NB348_331.out
                      refine skip_ (w1 := ?_) (by rfl) rfl ?_ ?_
                      rotate_left
                      ·go_simp
                       rfl
                      refine hK.out _ _ ⟨((cell_far (p := ⟨gb348, _, none⟩) NB331_348.out _).trans (((cell_far (p := ⟨gb348, _, none⟩) NB331_348.out _).trans (hHeld.1)))), ((cell_far (p := ⟨gb348, _, none⟩) NB331_348.out _).trans (((cell_far (p := ⟨gb348, _, none⟩) NB331_348.out _).trans (hHeld.2.1)))), ((cell_far (p := ⟨gb348, _, none⟩) NB320_348.out _).trans (((cell_far (p := ⟨gb348, _, none⟩) NB320_348.out _).trans (hHeld.2.2.1)))), ((cell_far (p := ⟨gb348, _, none⟩) NB320_348.out _).trans (((cell_far (p := ⟨gb348, _, none⟩) NB320_348.out _).trans (hHeld.2.2.2.1)))), ((cell_far (p := ⟨gb348, _, none⟩) NB320_348.out _).trans (((cell_far (p := ⟨gb348, _, none⟩) NB320_348.out _).trans (hHeld.2.2.2.2.1)))), ((cell_far (p := ⟨gb348, _, none⟩) NB320_348.out _).trans (((cell_far (p := ⟨gb348, _, none⟩) NB320_348.out _).trans (hHeld.2.2.2.2.2.1)))), ((cell_far (p := ⟨gb348, _, none⟩) NB320_348.out _).trans (((cell_far (p := ⟨gb348, _, none⟩) NB320_348.out _).trans (hHeld.2.2.2.2.2.2.1)))), ((cell_far (p := ⟨gb348, _, none⟩) NB320_348.out _).trans (((cell_far (p := ⟨gb348, _, none⟩) NB320_348.out _).trans (hHeld.2.2.2.2.2.2.2.1)))), ((cell_far (p := ⟨gb348, _, none⟩) NB320_348.out _).trans (((cell_far (p := ⟨gb348, _, none⟩) NB320_348.out _).trans (hHeld.2.2.2.2.2.2.2.2.1)))), ((cell_far (p := ⟨gb348, _, none⟩) (by first|exact Nat.ne_of_lt (Nat.lt_of_lt_of_le (by have := World.block_lt_of_cell? _ _ hw340_0; first | rwa [add_block] at this|exact this) GW348.out) | (rw [add_block]; exact Nat.ne_of_lt (Nat.lt_of_lt_of_le (by have := World.block_lt_of_cell? _ _ hw340_0; first | rwa [add_block] at this|exact this) GW348.out)) | (show (Addr.add _ _).block ≠ _; rw [add_block]; exact Nat.ne_of_lt (Nat.lt_of_lt_of_le (by have := World.block_lt_of_cell? _ _ hw340_0; first | rwa [add_block] at this|exact this) GW348.out)) | (dsimp only; exact Nat.ne_of_lt (Nat.lt_of_lt_of_le (by have := World.block_lt_of_cell? _ _ hw340_0; first | rwa [add_block] at this|exact this) GW348.out))) _).trans (((cell_far (p := ⟨gb348, _, none⟩) (by first|exact Nat.ne_of_lt (Nat.lt_of_lt_of_le (by have := World.block_lt_of_cell? _ _ hw340_0; first | rwa [add_block] at this|exact this) GW348.out) | (rw [add_block]; exact Nat.ne_of_lt (Nat.lt_of_lt_of_le (by have := World.block_lt_of_cell? _ _ hw340_0; first | rwa [add_block] at this|exact this) GW348.out)) | (show (Addr.add _ _).block ≠ _; rw [add_block]; exact Nat.ne_of_lt (Nat.lt_of_lt_of_le (by have := World.block_lt_of_cell? _ _ hw340_0; first | rwa [add_block] at this|exact this) GW348.out)) | (dsimp only; exact Nat.ne_of_lt (Nat.lt_of_lt_of_le (by have := World.block_lt_of_cell? _ _ hw340_0; first | rwa [add_block] at this|exact this) GW348.out))) _).trans (hHeld.2.2.2.2.2.2.2.2.2))))⟩ (fun hHeld => ?_)
                      clear hK K
                      refine pure_ (i := 16) (N := some 8) (JoinW.bA 17 131071) rfl rfl (any_of HT_.out (by kernel_rfl)) (fun _ _ _ h => h) (Or.inl ⟨by rfl, by intro w'; go_simp; with_reducible rfl⟩) (by simp only [Act.put, List.setIfInBounds_toArray, List.set_cons_zero, List.set_cons_succ, i64_w, i32_w]; rfl) ?_
                      refine done_ (done_of HT_.out (by kernel_rfl)) ?_
                      try go_wp2
                      have n0_ : Aside0 (Kd.R (Kd.int .i64) 3 ((w85.setCell ⟨gb348, 0, none⟩ (.slice Ao86 t341.length co86)).setCell ⟨gb348, 1, none⟩ (.slice Ao88 t344.length co88)) w.heap.size (fun k_ => some k_ ≠ (.slice Ao21 t324.length co21 : Value).ownBlock ∧ some k_ ≠ (.slice Ao86 t341.length co86 : Value).ownBlock) v337 t335) := ⟨by (with_reducible repeat (first|apply rA|apply rN|apply rD)); exact Kd.R_mono (Kd.R_far (p := ⟨gb348, 1, none⟩) (Kd.R_far (p := ⟨gb348, 0, none⟩) (Kd.R_types HO_5.out BK348.out (by decide)) (fun _ hk => hk.2) (.slice Ao86 t341.length co86)) (fun _ hk => hk.2) (.slice Ao88 t344.length co88)) (fun _ hk => ⟨hk.1.2, hk.1.1⟩)⟩
                      have n1_ : Aside0 (Kd.R (Kd.int .i64) 3 ((w85.setCell ⟨gb348, 0, none⟩ (.slice Ao86 t341.length co86)).setCell ⟨gb348, 1, none⟩ (.slice Ao88 t344.length co88)) w.heap.size (fun k_ => some k_ ≠ (v337 : Value).ownBlock ∧ some k_ ≠ (.slice Ao86 t341.length co86 : Value).ownBlock) (.slice Ao21 t324.length co21) t324) := ⟨by (with_reducible repeat (first|apply rA|apply rN|apply rD)); exact Kd.R_mono (Kd.R_far (p := ⟨gb348, 1, none⟩) (Kd.R_far (p := ⟨gb348, 0, none⟩) (Kd.R_types HO_332000.out BK348.out (by decide)) (fun _ hk => hk.2) (.slice Ao86 t341.length co86)) (fun _ hk => hk.2) (.slice Ao88 t344.length co88)) (fun _ hk => ⟨hk.1.2, hk.1.1⟩)⟩
                      have n2_ : Aside0 (Kd.R (Kd.int .i64) 27 ((w85.setCell ⟨gb348, 0, none⟩ (.slice Ao86 t341.length co86)).setCell ⟨gb348, 1, none⟩ (.slice Ao88 t344.length co88)) w.heap.size (fun k_ => some k_ ≠ (.slice Ao88 t344.length co88 : Value).ownBlock) (.slice Ao24 t327.length co24) t327) := ⟨by (with_reducible repeat (first|apply rA|apply rN|apply rD)); exact Kd.R_mono (Kd.R_far (p := ⟨gb348, 1, none⟩) (Kd.R_far (p := ⟨gb348, 0, none⟩) (Kd.R_types HO_332001.out BK348.out (by decide)) (fun _ hk => hk.2) (.slice Ao86 t341.length co86)) (fun _ hk => hk.2) (.slice Ao88 t344.length co88)) (fun _ hk => hk.1)⟩
                      have n3_ : Aside0 (Kd.R (Kd.int .i64) 3 ((w85.setCell ⟨gb348, 0, none⟩ (.slice Ao86 t341.length co86)).setCell ⟨gb348, 1, none⟩ (.slice Ao88 t344.length co88)) w.heap.size (fun k_ => some k_ ≠ (v337 : Value).ownBlock ∧ some k_ ≠ (.slice Ao21 t324.length co21 : Value).ownBlock) (.slice Ao86 t341.length co86) t341) := ⟨by (with_reducible repeat (first|apply rA|apply rN|apply rD)); exact Kd.R_mono (Kd.R_far (p := ⟨gb348, 1, none⟩) (Kd.R_far (p := ⟨gb348, 0, none⟩) (Kd.R_types HO343.out BK348.out (by decide)) (fun _ hk => hk.2) (.slice Ao86 t341.length co86)) (fun _ hk => hk.2) (.slice Ao88 t344.length co88)) (fun _ hk => ⟨hk.1.2, hk.1.1⟩)⟩
                      have n4_ : Aside0 (Kd.R (Kd.int .i64) 27 ((w85.setCell ⟨gb348, 0, none⟩ (.slice Ao86 t341.length co86)).setCell ⟨gb348, 1, none⟩ (.slice Ao88 t344.length co88)) w.heap.size (fun k_ => some k_ ≠ (.slice Ao24 t327.length co24 : Value).ownBlock) (.slice Ao88 t344.length co88) t344) := ⟨by (with_reducible repeat (first|apply rA|apply rN|apply rD)); exact Kd.R_mono (Kd.R_far (p := ⟨gb348, 1, none⟩) (Kd.R_far (p := ⟨gb348, 0, none⟩) (Kd.R_types HO346.out BK348.out (by decide)) (fun _ hk => hk.2) (.slice Ao86 t341.length co86)) (fun _ hk => hk.2) (.slice Ao88 t344.length co88)) (fun _ hk => hk.1)⟩
                      have n5_ : Aside0 (((w85.setCell ⟨gb348, 0, none⟩ (.slice Ao86 t341.length co86)).setCell ⟨gb348, 1, none⟩ (.slice Ao88 t344.length co88)).heap[gb320]? = some (.cells #[.slice (some ad340) l0_0.length c0_0, .slice A0_1 l0_1.length c0_1, .slice A0_2 l0_2.length c0_2, .slice A0_3 l0_3.length c0_3, .int .i64 a0_4, .int .i64 a0_5, .int .i64 a0_6] 47 (0, 0))) := ⟨by (with_reducible repeat (first|apply kN|apply kD|apply kA)); refine blk_far ?_ NB320_348.out _; (with_reducible repeat (first|apply kN|apply kD|apply kA)); refine blk_far ?_ NB320_348.out _; (with_reducible repeat (first|apply kN|apply kD|apply kA)); exact BK320.out⟩
                      have n6_ : Aside0 (((w85.setCell ⟨gb348, 0, none⟩ (.slice Ao86 t341.length co86)).setCell ⟨gb348, 1, none⟩ (.slice Ao88 t344.length co88)).heap[gb331]? = some (.cells #[.slice Ao21 t324.length co21, .slice Ao24 t327.length co24] 26 (0, 0))) := ⟨by (with_reducible repeat (first|apply kN|apply kD|apply kA)); refine blk_far ?_ NB331_348.out _; (with_reducible repeat (first|apply kN|apply kD|apply kA)); refine blk_far ?_ NB331_348.out _; (with_reducible repeat (first|apply kN|apply kD|apply kA)); exact BK331.out⟩
                      have n7_ : Aside0 (((w85.setCell ⟨gb348, 0, none⟩ (.slice Ao86 t341.length co86)).setCell ⟨gb348, 1, none⟩ (.slice Ao88 t344.length co88)).heap[gb348]? = some (.cells #[.slice Ao86 t341.length co86, .slice Ao88 t344.length co88] 26 (0, 0))) := ⟨by (with_reducible repeat (first|apply kN|apply kD|apply kA)); refine blk_put (cs := #[.slice Ao86 t341.length co86, .slice none 0 0]) ?_ 1 _ rfl; (with_reducible repeat (first|apply kN|apply kD|apply kA)); refine blk_put (cs := #[.slice none 0 0, .slice none 0 0]) ?_ 0 _ rfl; (with_reducible repeat (first|apply kN|apply kD|apply kA)); exact BK348.out⟩
                      have n8_ : Aside0 (Below w.heap.size w ((w85.setCell ⟨gb348, 0, none⟩ (.slice Ao86 t341.length co86)).setCell ⟨gb348, 1, none⟩ (.slice Ao88 t344.length co88))) := ⟨by repeat (first | (with_reducible first|exact HB.out|apply bA|apply bN|apply bD|refine bS ?_ GE320.out|refine bS ?_ GE331.out|refine bS ?_ GE348.out)|exact HB.out)⟩
                      (try clear HO_5)
                      (try clear HO_332000)
                      (try clear HO_332001)
                      (try clear HO343)
                      (try clear HO346)
                      (try clear BK320)
                      (try clear BK331)
                      (try clear BK348)
                      (try clear HB)
                      generalize ((w85.setCell ⟨gb348, 0, none⟩ (.slice Ao86 t341.length co86)).setCell ⟨gb348, 1, none⟩ (.slice Ao88 t344.length co88)) = w90 at n0_ n1_ n2_ n3_ n4_ n5_ n6_ n7_ n8_ ⊢
                      have HO_5 := n0_
                      have HO_332000 := n1_
                      have HO_332001 := n2_
                      have HO343 := n3_
                      have HO346 := n4_
                      have BK320 := n5_
                      have BK331 := n6_
                      have BK348 := n7_
                      have HB := n8_
                      clear n0_ n1_ n2_ n3_ n4_ n5_ n6_ n7_ n8_
                      have n0_ := aM (Kd.R_drew HO_5.out)
                      have n1_ := aM (Kd.R_drew HO_332000.out)
                      have n2_ := aM (Kd.R_drew HO_332001.out)
                      have n3_ := aM (Kd.R_drew HO343.out)
                      have n4_ := aM (Kd.R_drew HO346.out)
                      have n5_ := aM (blk_drew BK320.out)
                      have n6_ := aM (blk_drew BK331.out)
                      have n7_ := aM (blk_drew BK348.out)
                      have n8_ := aM (below_drew1 HB.out)
                      clear HO_5
                      clear HO_332000
                      clear HO_332001
                      clear HO343
                      clear HO346
                      clear BK320
                      clear BK331
                      clear BK348
                      clear HB
                      have HO_5 := n0_
                      have HO_332000 := n1_
                      have HO_332001 := n2_
                      have HO343 := n3_
                      have HO346 := n4_
                      have BK320 := n5_
                      have BK331 := n6_
                      have BK348 := n7_
                      have HB := n8_
                      clear n0_ n1_ n2_ n3_ n4_ n5_ n6_ n7_ n8_
                      have p349 : 0 ≤ (a0_4 : Int) := of_decide_eq_true (by first | (with_reducible assumption) | assumption)
                      have q349 : a0_4 < (l0_0.length : Int) := of_decide_eq_true (by first | (with_reducible assumption) | assumption)
                      obtain ⟨ad349, e349, hx349_0⟩ := Kd.at_int HR0_0.out a0_4 p349 q349
                      have hw349_0 := hx349_0
                      obtain rfl : ad340 = ad349 := (by injection e349)
                      replace hx349_0 := (HB.out.cell (World.block_lt_of_cell? w _ hx349_0)).trans hx349_0
                      replace p349 := eq_true p349
                      replace q349 := eq_true q349
                      obtain ⟨Ao92, co92, eo92⟩ := Kd.R_slice HO_5.out
                      (first | subst eo92 | (injection eo92 with f1_ f2_ f3_; have f4_ := f1_.symm; have f5_ := f3_.symm; clear f1_ f2_ f3_; subst f4_; subst f5_))
                      have p350 : 0 ≤ (a0_4 : Int) := of_decide_eq_true (by first | (with_reducible assumption) | assumption)
                      have q350 : a0_4 < (t335.length : Int) := of_decide_eq_true (by first | (with_reducible assumption) | assumption)
                      obtain ⟨ad350, e350, hx350_0⟩ := Kd.at_int (Kd.R_reads' HO_5.out).2.2 a0_4 p350 q350
                      cases e350
                      replace p350 := eq_true p350
                      replace q350 := eq_true q350
                      refine start_ (n := 22) (S := fun w' => w'.cell? ⟨gb331, 0, none⟩ = some (.slice Ao21 t324.length co21) ∧ w'.cell? ⟨gb331, 1, none⟩ = some (.slice Ao24 t327.length co24) ∧ w'.cell? ⟨gb320, 0, none⟩ = some (.slice (some ad340) l0_0.length c0_0) ∧ w'.cell? ⟨gb320, 1, none⟩ = some (.slice A0_1 l0_1.length c0_1) ∧ w'.cell? ⟨gb320, 2, none⟩ = some (.slice A0_2 l0_2.length c0_2) ∧ w'.cell? ⟨gb320, 3, none⟩ = some (.slice A0_3 l0_3.length c0_3) ∧ w'.cell? ⟨gb320, 4, none⟩ = some (.int .i64 a0_4) ∧ w'.cell? ⟨gb320, 5, none⟩ = some (.int .i64 a0_5) ∧ w'.cell? ⟨gb320, 6, none⟩ = some (.int .i64 a0_6) ∧ w'.cell? (ad340.add (a0_4).toNat) = some (.int .i64 (rd l0_0 a0_4)) ∧ w'.cell? (ad350.add (a0_4).toNat) = some (.int .i64 (rd t335 a0_4))) (ds := []) #[false, false, false, false, false, false, false, false, false, false, false, false, false, false, false, false, false, false, false, false, false, false] (by kernel_rfl) rfl rfl ⟨(blk_cell BK331.out 0).trans rfl, (blk_cell BK331.out 1).trans rfl, (blk_cell BK320.out 0).trans rfl, (blk_cell BK320.out 1).trans rfl, (blk_cell BK320.out 2).trans rfl, (blk_cell BK320.out 3).trans rfl, (blk_cell BK320.out 4).trans rfl, (blk_cell BK320.out 5).trans rfl, (blk_cell BK320.out 6).trans rfl, ((HB.out.cell (World.block_lt_of_cell? w _ hw349_0)).trans hw349_0), hx350_0⟩ (fun hHeld => ?_); refine with_tabW athanorlaw04_TensorJoins.tab12 athanorlaw04_TensorJoins.bits12 (fun HT_ HW_ => ?_)
                      generalize w90.drew = w91 at HO_5 HO_332000 HO_332001 HO343 HO346 BK320 BK331 BK348 HB hx349_0 hx350_0 hHeld ⊢
                      refine pure_ (i := 1) (N := some 125) (JoinW.bA 22 2) rfl rfl (any_of HT_.out (by kernel_rfl)) (fun _ _ _ h => h) (Or.inl ⟨by rfl, by intro w'; go_simp; with_reducible rfl⟩) (by simp only [Act.put, List.setIfInBounds_toArray, List.set_cons_zero, List.set_cons_succ, i64_w, i32_w]; rfl) ?_
                      refine pure_ (i := 3) (N := some 127) (JoinW.bA 22 10) rfl rfl (any_of HT_.out (by kernel_rfl)) (fun _ _ _ h => h) (Or.inl ⟨by rfl, by intro w'; go_simp; with_reducible rfl⟩) (by simp only [Act.put, List.setIfInBounds_toArray, List.set_cons_zero, List.set_cons_succ, i64_w, i32_w]; rfl) ?_
                      refine pure_ (i := 4) (N := some 128) (JoinW.bA 22 26) rfl rfl (any_of HT_.out (by kernel_rfl)) (fun _ _ _ h => h) (Or.inl ⟨by rfl, by intro w'; go_simp; with_reducible rfl⟩) (by simp only [Act.put, List.setIfInBounds_toArray, List.set_cons_zero, List.set_cons_succ, i64_w, i32_w]; rfl) ?_
                      refine pure_ (i := 6) (N := some 130) (JoinW.bA 22 90) rfl rfl (any_of HT_.out (by kernel_rfl)) (fun _ _ _ h => h) (Or.inl ⟨by rfl, by intro w'; go_simp; with_reducible rfl⟩) (by simp only [Act.put, List.setIfInBounds_toArray, List.set_cons_zero, List.set_cons_succ, i64_w, i32_w]; rfl) ?_
                      refine pure_ (i := 10) (N := some 134) (JoinW.bA 22 1114) rfl rfl (any_of HT_.out (by kernel_rfl)) (fun _ _ _ h => h) (Or.inl ⟨by rfl, by intro w'; go_simp; with_reducible rfl⟩) (by simp only [Act.put, List.setIfInBounds_toArray, List.set_cons_zero, List.set_cons_succ, i64_w, i32_w]; rfl) ?_
                      refine pure_ (i := 11) (N := some 135) (JoinW.bA 22 3162) rfl rfl (any_of HT_.out (by kernel_rfl)) (fun _ _ _ h => h) (Or.inl ⟨by rfl, by intro w'; go_simp; with_reducible rfl⟩) (by simp only [Act.put, List.setIfInBounds_toArray, List.set_cons_zero, List.set_cons_succ, i64_w, i32_w]; rfl) ?_
                      refine take_ (i := 0) (N := some 124) (JoinW.bA 22 3163) rfl rfl (take_ofW HT_.out HW_.out (by kernel_rfl)) (fun _ _ _ h => h) (Or.inl ⟨by rfl, by rintro w' ⟨s0, s1, s2, s3, s4, s5, s6, s7, s8, s9, s10⟩; go_simp; with_reducible rfl⟩) hHeld (by simp only [Act.put, List.setIfInBounds_toArray, List.set_cons_zero, List.set_cons_succ, i64_w, i32_w]; rfl) ?_
                      refine take_ (i := 2) (N := some 126) (JoinW.bA 22 3167) rfl rfl (take_ofW HT_.out HW_.out (by kernel_rfl)) (fun _ _ _ h => h) (Or.inl ⟨by rfl, by rintro w' ⟨s0, s1, s2, s3, s4, s5, s6, s7, s8, s9, s10⟩; go_simp; with_reducible rfl⟩) hHeld (by simp only [Act.put, List.setIfInBounds_toArray, List.set_cons_zero, List.set_cons_succ, i64_w, i32_w]; rfl) ?_
                      refine take_ (i := 5) (N := some 129) (JoinW.bA 22 3199) rfl rfl (take_ofW HT_.out HW_.out (by kernel_rfl)) (fun _ _ _ h => h) (Or.inl ⟨by rfl, by rintro w' ⟨s0, s1, s2, s3, s4, s5, s6, s7, s8, s9, s10⟩; go_simp; with_reducible rfl⟩) hHeld (by simp only [Act.put, List.setIfInBounds_toArray, List.set_cons_zero, List.set_cons_succ, i64_w, i32_w]; rfl) ?_
                      refine take_ (i := 7) (N := some 131) (JoinW.bA 22 3327) rfl rfl (take_ofW HT_.out HW_.out (by kernel_rfl)) (fun _ _ _ h => h) (Or.inl ⟨by rfl, by rintro w' ⟨s0, s1, s2, s3, s4, s5, s6, s7, s8, s9, s10⟩; go_simp; with_reducible rfl⟩) hHeld (by simp only [Act.put, List.setIfInBounds_toArray, List.set_cons_zero, List.set_cons_succ, i64_w, i32_w]; rfl) ?_
                      refine pure_ (i := 8) (N := some 132) (JoinW.bA 22 3583) rfl rfl (any_of HT_.out (by kernel_rfl)) (fun _ _ _ h => h) (Or.inl ⟨by rfl, by intro w'; go_simp; with_reducible rfl⟩) (by simp only [Act.put, List.setIfInBounds_toArray, List.set_cons_zero, List.set_cons_succ, i64_w, i32_w]; rfl) ?_
                      refine take_ (i := 9) (N := some 133) (JoinW.bA 22 4095) rfl rfl (take_ofW HT_.out HW_.out (by kernel_rfl)) (fun _ _ _ h => h) (Or.inl ⟨by rfl, by rintro w' ⟨s0, s1, s2, s3, s4, s5, s6, s7, s8, s9, s10⟩; go_simp; with_reducible rfl⟩) hHeld (by simp only [Act.put, List.setIfInBounds_toArray, List.set_cons_zero, List.set_cons_succ, i64_w, i32_w]; rfl) ?_
                      refine take_ (i := 12) (N := some 136) (JoinW.bA 22 8191) rfl rfl (take_ofW HT_.out HW_.out (by kernel_rfl)) (fun _ _ _ h => h) (Or.inl ⟨by rfl, by rintro w' ⟨s0, s1, s2, s3, s4, s5, s6, s7, s8, s9, s10⟩; go_simp; with_reducible rfl⟩) hHeld (by simp only [Act.put, List.setIfInBounds_toArray, List.set_cons_zero, List.set_cons_succ, i64_w, i32_w]; rfl) ?_
                      refine pure_ (i := 13) (N := some 137) (JoinW.bA 22 16383) rfl rfl (any_of HT_.out (by kernel_rfl)) (fun _ _ _ h => h) (Or.inl ⟨by rfl, by intro w'; go_simp; with_reducible rfl⟩) (by simp only [Act.put, List.setIfInBounds_toArray, List.set_cons_zero, List.set_cons_succ, i64_w, i32_w]; rfl) ?_
                      refine take_ (i := 14) (N := some 138) (JoinW.bA 22 32767) rfl rfl (take_ofW HT_.out HW_.out (by kernel_rfl)) (fun _ _ _ h => h) (Or.inl ⟨by rfl, by rintro w' ⟨s0, s1, s2, s3, s4, s5, s6, s7, s8, s9, s10⟩; go_simp; with_reducible rfl⟩) hHeld (by simp only [Act.put, List.setIfInBounds_toArray, List.set_cons_zero, List.set_cons_succ, i64_w, i32_w]; rfl) ?_
                      refine join_ (σ := Value × Value × Nat) 2 #[true, true, true, true, true, true, true, true, true, true, true, true, true, true, true, true, true, true, true, true, false, false] (fun s_ => [(139, .tuple #[.agg #[s_.1, s_.2.1], .int .i64 t357]), (9, .pointer (some ⟨s_.2.2, 0, none⟩)), (123, .tuple #[.agg #[s_.1, s_.2.1], .int .i64 t357]), (140, .agg #[s_.1, s_.2.1]), (141, .int .i64 t357)]) (fun s_ w' => (w'.cell? ⟨gb331, 0, none⟩ = some (.slice Ao21 t324.length co21) ∧ w'.cell? ⟨gb331, 1, none⟩ = some (.slice Ao24 t327.length co24) ∧ w'.cell? ⟨gb320, 0, none⟩ = some (.slice (some ad340) l0_0.length c0_0) ∧ w'.cell? ⟨gb320, 1, none⟩ = some (.slice A0_1 l0_1.length c0_1) ∧ w'.cell? ⟨gb320, 2, none⟩ = some (.slice A0_2 l0_2.length c0_2) ∧ w'.cell? ⟨gb320, 3, none⟩ = some (.slice A0_3 l0_3.length c0_3) ∧ w'.cell? ⟨gb320, 4, none⟩ = some (.int .i64 a0_4) ∧ w'.cell? ⟨gb320, 5, none⟩ = some (.int .i64 a0_5) ∧ w'.cell? ⟨gb320, 6, none⟩ = some (.int .i64 a0_6) ∧ w'.cell? (ad340.add (a0_4).toNat) = some (.int .i64 (rd l0_0 a0_4)) ∧ w'.cell? (ad350.add (a0_4).toNat) = some (.int .i64 (rd t335 a0_4))) ∧ (Kd.R (Kd.int .i64) 3 w' w.heap.size (fun k_ => some k_ ≠ (s_.1 : Value).ownBlock ∧ some k_ ≠ (.slice Ao21 t324.length co21 : Value).ownBlock ∧ some k_ ≠ (.slice (some ad350) t335.length co92 : Value).ownBlock) (.slice Ao86 t341.length co86) t341) ∧ (Kd.R (Kd.int .i64) 27 w' w.heap.size (fun k_ => some k_ ≠ (s_.2.1 : Value).ownBlock ∧ some k_ ≠ (.slice Ao24 t327.length co24 : Value).ownBlock) (.slice Ao88 t344.length co88) t344) ∧ (Kd.R (Kd.int .i64) 3 w' w.heap.size (fun k_ => some k_ ≠ (.slice Ao86 t341.length co86 : Value).ownBlock ∧ some k_ ≠ (.slice Ao21 t324.length co21 : Value).ownBlock ∧ some k_ ≠ (.slice (some ad350) t335.length co92 : Value).ownBlock) s_.1 t351) ∧ (Kd.R (Kd.int .i64) 27 w' w.heap.size (fun k_ => some k_ ≠ (.slice Ao88 t344.length co88 : Value).ownBlock ∧ some k_ ≠ (.slice Ao24 t327.length co24 : Value).ownBlock) s_.2.1 t354) ∧ (Kd.R (Kd.int .i64) 3 w' w.heap.size (fun k_ => some k_ ≠ (.slice Ao86 t341.length co86 : Value).ownBlock ∧ some k_ ≠ (s_.1 : Value).ownBlock ∧ some k_ ≠ (.slice (some ad350) t335.length co92 : Value).ownBlock) (.slice Ao21 t324.length co21) t324) ∧ (Kd.R (Kd.int .i64) 27 w' w.heap.size (fun k_ => some k_ ≠ (.slice Ao88 t344.length co88 : Value).ownBlock ∧ some k_ ≠ (s_.2.1 : Value).ownBlock) (.slice Ao24 t327.length co24) t327) ∧ (Kd.R (Kd.int .i64) 3 w' w.heap.size (fun k_ => some k_ ≠ (.slice Ao86 t341.length co86 : Value).ownBlock ∧ some k_ ≠ (s_.1 : Value).ownBlock ∧ some k_ ≠ (.slice Ao21 t324.length co21 : Value).ownBlock) (.slice (some ad350) t335.length co92) t335) ∧ (w'.heap[gb320]? = some (.cells #[.slice (some ad340) l0_0.length c0_0, .slice A0_1 l0_1.length c0_1, .slice A0_2 l0_2.length c0_2, .slice A0_3 l0_3.length c0_3, .int .i64 a0_4, .int .i64 a0_5, .int .i64 a0_6] 47 (0, 0))) ∧ (w'.heap[gb331]? = some (.cells #[.slice Ao21 t324.length co21, .slice Ao24 t327.length co24] 26 (0, 0))) ∧ (w'.heap[gb348]? = some (.cells #[.slice Ao86 t341.length co86, .slice Ao88 t344.length co88] 26 (0, 0))) ∧ (w'.heap[s_.2.2]? = some (.cells #[.slice none 0 0, .slice none 0 0] 26 (0, 0))) ∧ (w.heap.size ≤ s_.2.2) ∧ (w.heap.size ≤ s_.2.2) ∧ (gb320 ≠ s_.2.2) ∧ (s_.2.2 ≠ gb320) ∧ (gb331 ≠ s_.2.2) ∧ (s_.2.2 ≠ gb331) ∧ (gb348 ≠ s_.2.2) ∧ (s_.2.2 ≠ gb348) ∧ (Below w.heap.size w w')) ?_ ?_
                      rotate_left
                      ·intro hCont
                       refine two_ (i := 15) (j := 19) (Ni := some 139) (Nj := some 9) (JoinW.bA 22 65535) (JoinW.bA 22 557055) rfl rfl rfl rfl (two_of HT_.out (by kernel_rfl)) (by decide) (by decide) (fun K hK => ?_) (fun K hK => ?_)
                       ·skip
                        refine goes_ Try.func28 (by kernel_rfl) rfl #[.agg #[.slice Ao21 t324.length co21, .slice Ao24 t327.length co24], .int .i64 a0_4, .int .i64 (rd l0_0 a0_4), .int .i64 (rd t335 a0_4)] (by rfl) rfl rfl (by (try simp only [List.map_toArray, List.map_cons, List.map_nil]); first | done | rfl | (simp only [List.length_drop, List.length_take]; rfl)) ?_
                        with_reducible refine (tensor_Grid_fix_F_Cut.calls _ _ t324 _ _ t327 a0_4 (rd l0_0 a0_4) (rd t335 a0_4) t351 t354 t357 _ ?side1 ?side2 ?side3 ?side4 A66.out).mono ?_
                        (case side1 => repeat (first|exact (Kd.R_reads' HO_332000.out).2.2 | with_reducible first|apply cA|apply cN|apply cD))
                        (case side2 => exact (Kd.R_reads' HO_332000.out).2.1)
                        (case side3 => repeat (first|exact (Kd.R_reads' HO_332001.out).2.2 | with_reducible first|apply cA|apply cN|apply cD))
                        (case side4 => exact (Kd.R_reads' HO_332001.out).2.1)
                        rintro e w93 ⟨v352, v355, rfl, ho0, ho1, hb⟩
                        have HS10_ := (hb.cell (World.block_lt_of_cell? _ _ (hHeld.2.2.2.2.2.2.2.2.2.2))).trans (hHeld.2.2.2.2.2.2.2.2.2.2)
                        refine ⟨_, rfl, ?_⟩
                        have n0_ := aM (Kd.R_elder' (by (with_reducible repeat (first|apply rA|apply rN|apply rD)); exact HO_5.out) (Kd.R_base ho0) hb)
                        have n1_ := aM (Kd.R_elder' (by (with_reducible repeat (first|apply rA|apply rN|apply rD)); exact HO_332000.out) (Kd.R_base ho0) hb)
                        have n2_ := aM (Kd.R_elder' (by (with_reducible repeat (first|apply rA|apply rN|apply rD)); exact HO_332001.out) (Kd.R_base ho1) hb)
                        have n3_ := aM (Kd.R_elder' (by (with_reducible repeat (first|apply rA|apply rN|apply rD)); exact HO343.out) (Kd.R_base ho0) hb)
                        have n4_ := aM (Kd.R_elder' (by (with_reducible repeat (first|apply rA|apply rN|apply rD)); exact HO346.out) (Kd.R_base ho1) hb)
                        have n5_ := aM (Kd.R_lower (Kd.R_new' (Kd.R_new' (Kd.R_new' ho0 (Kd.R_lt (by (with_reducible repeat (first|apply rA|apply rN|apply rD)); exact HO_5.out))) (Kd.R_lt (by (with_reducible repeat (first|apply rA|apply rN|apply rD)); exact HO_332000.out))) (Kd.R_lt (by (with_reducible repeat (first|apply rA|apply rN|apply rD)); exact HO343.out))) (below_size (by repeat (first | (with_reducible first|exact HB.out|apply bA|apply bN|apply bD|refine bS ?_ GE320.out|refine bS ?_ GE331.out|refine bS ?_ GE348.out)|exact HB.out))))
                        have n6_ := aM (Kd.R_lower (Kd.R_new' (Kd.R_new' ho1 (Kd.R_lt (by (with_reducible repeat (first|apply rA|apply rN|apply rD)); exact HO_332001.out))) (Kd.R_lt (by (with_reducible repeat (first|apply rA|apply rN|apply rD)); exact HO346.out))) (below_size (by repeat (first | (with_reducible first|exact HB.out|apply bA|apply bN|apply bD|refine bS ?_ GE320.out|refine bS ?_ GE331.out|refine bS ?_ GE348.out)|exact HB.out))))
                        have n7_ := aM (blk_below (g := gb320) (o := .cells #[.slice (some ad340) l0_0.length c0_0, .slice A0_1 l0_1.length c0_1, .slice A0_2 l0_2.length c0_2, .slice A0_3 l0_3.length c0_3, .int .i64 a0_4, .int .i64 a0_5, .int .i64 a0_6] 47 (0, 0)) (by (with_reducible repeat (first|apply kN|apply kD|apply kA)); exact BK320.out) hb)
                        have n8_ := aM (blk_below (g := gb331) (o := .cells #[.slice Ao21 t324.length co21, .slice Ao24 t327.length co24] 26 (0, 0)) (by (with_reducible repeat (first|apply kN|apply kD|apply kA)); exact BK331.out) hb)
                        have n9_ := aM (blk_below (g := gb348) (o := .cells #[.slice Ao86 t341.length co86, .slice Ao88 t344.length co88] 26 (0, 0)) (by (with_reducible repeat (first|apply kN|apply kD|apply kA)); exact BK348.out) hb)
                        have n10_ := aM (below_step (by repeat (first | (with_reducible first|exact HB.out|apply bA|apply bN|apply bD|refine bS ?_ GE320.out|refine bS ?_ GE331.out|refine bS ?_ GE348.out)|exact HB.out)) hb)
                        clear HO_5
                        clear HO_332000
                        clear HO_332001
                        clear HO343
                        clear HO346
                        clear BK320
                        clear BK331
                        clear BK348
                        clear HB
                        have HO_5 := n0_
                        have HO_332000 := n1_
                        have HO_332001 := n2_
                        have HO343 := n3_
                        have HO346 := n4_
                        have HO353 := n5_
                        have HO356 := n6_
                        have BK320 := n7_
                        have BK331 := n8_
                        have BK348 := n9_
                        have HB := n10_
                        clear n0_ n1_ n2_ n3_ n4_ n5_ n6_ n7_ n8_ n9_ n10_
                        (try clear hb)
                        skip
                        (try clear hk)
                        skip
                        (try clear ho0)
                        (try clear ho1)
                        refine hK.out _ _ ⟨(blk_cell BK331.out 0).trans rfl, (blk_cell BK331.out 1).trans rfl, (blk_cell BK320.out 0).trans rfl, (blk_cell BK320.out 1).trans rfl, (blk_cell BK320.out 2).trans rfl, (blk_cell BK320.out 3).trans rfl, (blk_cell BK320.out 4).trans rfl, (blk_cell BK320.out 5).trans rfl, (blk_cell BK320.out 6).trans rfl, ((HB.out.cell (World.block_lt_of_cell? w _ hw349_0)).trans hw349_0), HS10_⟩ (fun hHeld => ?_)
                        clear hK K
                        refine norm_ (a' := ?_) ?_ ?_
                        rotate_left
                        ·show Act.put _ (some 139) _ = _
                         simp only [Act.put, List.setIfInBounds_toArray, List.set_cons_zero, List.set_cons_succ, i64_w, i32_w]
                         rfl
                        refine pure_ (i := 16) (N := some 123) (JoinW.bA 22 131071) rfl rfl (any_of HT_.out (by kernel_rfl)) (fun _ _ _ h => h) (Or.inl ⟨by rfl, by intro w'; go_simp; with_reducible rfl⟩) (by simp only [Act.put, List.setIfInBounds_toArray, List.set_cons_zero, List.set_cons_succ, i64_w, i32_w]; rfl) ?_
                        refine pure_ (i := 17) (N := some 140) (JoinW.bA 22 262143) rfl rfl (any_of HT_.out (by kernel_rfl)) (fun _ _ _ h => h) (Or.inl ⟨by rfl, by intro w'; go_simp; with_reducible rfl⟩) (by simp only [Act.put, List.setIfInBounds_toArray, List.set_cons_zero, List.set_cons_succ, i64_w, i32_w]; rfl) ?_
                        refine pure_ (i := 18) (N := some 141) (JoinW.bA 22 524287) rfl rfl (any_of HT_.out (by kernel_rfl)) (fun _ _ _ h => h) (Or.inl ⟨by rfl, by intro w'; go_simp; with_reducible rfl⟩) (by simp only [Act.put, List.setIfInBounds_toArray, List.set_cons_zero, List.set_cons_succ, i64_w, i32_w]; rfl) ?_
                        refine one_ (i := 19) (N := some 9) (JoinW.bA 22 1048575) rfl rfl (one_of HT_.out (by kernel_rfl)) (by decide) (fun K hK => ?_)
                        refine box_step ?hg (N := 9) ?hd (cs := #[.slice none 0 0, .slice none 0 0]) (t := 26) ?hr ?_; (case hd => rfl); (case hg => rfl); (case hr => first | (go_simp; done) | (go_simp; rfl))
                        intro gb358 hg w94 hbox hb
                        have HS10_ := (hb.cell (World.block_lt_of_cell? _ _ (hHeld.2.2.2.2.2.2.2.2.2.2))).trans (hHeld.2.2.2.2.2.2.2.2.2.2)
                        have n0_ := aM (Kd.R_below (by (with_reducible repeat (first|apply rA|apply rN|apply rD)); exact HO_5.out) hb)
                        have n1_ := aM (Kd.R_below (by (with_reducible repeat (first|apply rA|apply rN|apply rD)); exact HO_332000.out) hb)
                        have n2_ := aM (Kd.R_below (by (with_reducible repeat (first|apply rA|apply rN|apply rD)); exact HO_332001.out) hb)
                        have n3_ := aM (Kd.R_below (by (with_reducible repeat (first|apply rA|apply rN|apply rD)); exact HO343.out) hb)
                        have n4_ := aM (Kd.R_below (by (with_reducible repeat (first|apply rA|apply rN|apply rD)); exact HO346.out) hb)
                        have n5_ := aM (Kd.R_below (by (with_reducible repeat (first|apply rA|apply rN|apply rD)); exact HO353.out) hb)
                        have n6_ := aM (Kd.R_below (by (with_reducible repeat (first|apply rA|apply rN|apply rD)); exact HO356.out) hb)
                        have n7_ := aM (blk_below (g := gb320) (o := .cells #[.slice (some ad340) l0_0.length c0_0, .slice A0_1 l0_1.length c0_1, .slice A0_2 l0_2.length c0_2, .slice A0_3 l0_3.length c0_3, .int .i64 a0_4, .int .i64 a0_5, .int .i64 a0_6] 47 (0, 0)) (by (with_reducible repeat (first|apply kN|apply kD|apply kA)); exact BK320.out) hb)
                        have n8_ := aM (blk_below (g := gb331) (o := .cells #[.slice Ao21 t324.length co21, .slice Ao24 t327.length co24] 26 (0, 0)) (by (with_reducible repeat (first|apply kN|apply kD|apply kA)); exact BK331.out) hb)
                        have n9_ := aM (blk_below (g := gb348) (o := .cells #[.slice Ao86 t341.length co86, .slice Ao88 t344.length co88] 26 (0, 0)) (by (with_reducible repeat (first|apply kN|apply kD|apply kA)); exact BK348.out) hb)
                        have n10_ := aM (below_step (by repeat (first | (with_reducible first|exact HB.out|apply bA|apply bN|apply bD|refine bS ?_ GE320.out|refine bS ?_ GE331.out|refine bS ?_ GE348.out)|exact HB.out)) hb)
                        have n11_ := aM (hbox)
                        have n12_ := aM ((by rw [hg]; exact (below_size (by repeat (first | (with_reducible first|exact HB.out|apply bA|apply bN|apply bD|refine bS ?_ GE320.out|refine bS ?_ GE331.out|refine bS ?_ GE348.out)|exact HB.out))) : w.heap.size ≤ gb358))
                        have n13_ := aM ((by rw [hg]; exact (below_size (by repeat (first | (with_reducible first|exact HB.out|apply bA|apply bN|apply bD|refine bS ?_ GE320.out|refine bS ?_ GE331.out|refine bS ?_ GE348.out)|exact HB.out))) : w.heap.size ≤ gb358))
                        have n14_ := aM ((by rw [hg]; exact Nat.ne_of_lt (blk_lt (g := gb320) (o := .cells #[.slice (some ad340) l0_0.length c0_0, .slice A0_1 l0_1.length c0_1, .slice A0_2 l0_2.length c0_2, .slice A0_3 l0_3.length c0_3, .int .i64 a0_4, .int .i64 a0_5, .int .i64 a0_6] 47 (0, 0)) (by (with_reducible repeat (first|apply kN|apply kD|apply kA)); exact BK320.out)) : gb320 ≠ gb358))
                        have n15_ := aM ((by rw [hg]; exact Nat.ne_of_gt (blk_lt (g := gb320) (o := .cells #[.slice (some ad340) l0_0.length c0_0, .slice A0_1 l0_1.length c0_1, .slice A0_2 l0_2.length c0_2, .slice A0_3 l0_3.length c0_3, .int .i64 a0_4, .int .i64 a0_5, .int .i64 a0_6] 47 (0, 0)) (by (with_reducible repeat (first|apply kN|apply kD|apply kA)); exact BK320.out)) : gb358 ≠ gb320))
                        have n16_ := aM ((by rw [hg]; exact Nat.ne_of_lt (blk_lt (g := gb331) (o := .cells #[.slice Ao21 t324.length co21, .slice Ao24 t327.length co24] 26 (0, 0)) (by (with_reducible repeat (first|apply kN|apply kD|apply kA)); exact BK331.out)) : gb331 ≠ gb358))
                        have n17_ := aM ((by rw [hg]; exact Nat.ne_of_gt (blk_lt (g := gb331) (o := .cells #[.slice Ao21 t324.length co21, .slice Ao24 t327.length co24] 26 (0, 0)) (by (with_reducible repeat (first|apply kN|apply kD|apply kA)); exact BK331.out)) : gb358 ≠ gb331))
                        have n18_ := aM ((by rw [hg]; exact Nat.ne_of_lt (blk_lt (g := gb348) (o := .cells #[.slice Ao86 t341.length co86, .slice Ao88 t344.length co88] 26 (0, 0)) (by (with_reducible repeat (first|apply kN|apply kD|apply kA)); exact BK348.out)) : gb348 ≠ gb358))
                        have n19_ := aM ((by rw [hg]; exact Nat.ne_of_gt (blk_lt (g := gb348) (o := .cells #[.slice Ao86 t341.length co86, .slice Ao88 t344.length co88] 26 (0, 0)) (by (with_reducible repeat (first|apply kN|apply kD|apply kA)); exact BK348.out)) : gb358 ≠ gb348))
                        clear HO_5
                        clear HO_332000
                        clear HO_332001
                        clear HO343
                        clear HO346
                        clear HO353
                        clear HO356
                        clear BK320
                        clear BK331
                        clear BK348
                        clear HB
                        have HO_5 := n0_
                        have HO_332000 := n1_
                        have HO_332001 := n2_
                        have HO343 := n3_
                        have HO346 := n4_
                        have HO353 := n5_
                        have HO356 := n6_
                        have BK320 := n7_
                        have BK331 := n8_
                        have BK348 := n9_
                        have HB := n10_
                        have BK358 := n11_
                        have GW358 := n12_
                        have GE358 := n13_
                        have NB320_358 := n14_
                        have NB358_320 := n15_
                        have NB331_358 := n16_
                        have NB358_331 := n17_
                        have NB348_358 := n18_
                        have NB358_348 := n19_
                        clear n0_ n1_ n2_ n3_ n4_ n5_ n6_ n7_ n8_ n9_ n10_ n11_ n12_ n13_ n14_ n15_ n16_ n17_ n18_ n19_
                        clear hb hbox hg
                        refine hK.out _ _ ⟨(blk_cell BK331.out 0).trans rfl, (blk_cell BK331.out 1).trans rfl, (blk_cell BK320.out 0).trans rfl, (blk_cell BK320.out 1).trans rfl, (blk_cell BK320.out 2).trans rfl, (blk_cell BK320.out 3).trans rfl, (blk_cell BK320.out 4).trans rfl, (blk_cell BK320.out 5).trans rfl, (blk_cell BK320.out 6).trans rfl, ((HB.out.cell (World.block_lt_of_cell? w _ hw349_0)).trans hw349_0), HS10_⟩ (fun hHeld => ?_)
                        clear hK K
                        refine norm_ (a' := ?_) ?_ ?_
                        rotate_left
                        ·show Act.put _ (some 9) _ = _
                         simp only [Act.put, List.setIfInBounds_toArray, List.set_cons_zero, List.set_cons_succ, i64_w, i32_w]
                         rfl
                        exact norm_ (by simp only [putAll, Act.put, List.setIfInBounds_toArray, List.set_cons_zero, List.set_cons_succ]) (hCont (v352, v355, gb358) _ ⟨hHeld, (by (with_reducible repeat (first|apply rA|apply rN|apply rD)); exact Kd.R_mono HO343.out (fun _ hk => ⟨hk.2, ⟨hk.1.2, hk.1.1⟩⟩)), (by (with_reducible repeat (first|apply rA|apply rN|apply rD)); exact Kd.R_mono HO346.out (fun _ hk => ⟨hk.2, hk.1⟩)), (by (with_reducible repeat (first|apply rA|apply rN|apply rD)); exact Kd.R_mono HO353.out (fun _ hk => ⟨hk.2, ⟨hk.1.2, hk.1.1.2⟩⟩)), (by (with_reducible repeat (first|apply rA|apply rN|apply rD)); exact Kd.R_mono HO356.out (fun _ hk => ⟨hk.2, hk.1.2⟩)), (by (with_reducible repeat (first|apply rA|apply rN|apply rD)); exact Kd.R_mono HO_332000.out (fun _ hk => ⟨hk.1.2, ⟨hk.2, hk.1.1⟩⟩)), (by (with_reducible repeat (first|apply rA|apply rN|apply rD)); exact HO_332001.out), (by (with_reducible repeat (first|apply rA|apply rN|apply rD)); exact Kd.R_mono HO_5.out (fun _ hk => ⟨hk.1.2, ⟨hk.2, hk.1.1⟩⟩)), (by (with_reducible repeat (first|apply kN|apply kD|apply kA)); exact BK320.out), (by (with_reducible repeat (first|apply kN|apply kD|apply kA)); exact BK331.out), (by (with_reducible repeat (first|apply kN|apply kD|apply kA)); exact BK348.out), (by (with_reducible repeat (first|apply kN|apply kD|apply kA)); exact BK358.out), GW358.out, GE358.out, NB320_358.out, NB358_320.out, NB331_358.out, NB358_331.out, NB348_358.out, NB358_348.out, (by repeat (first | (with_reducible first|exact HB.out|apply bA|apply bN|apply bD|refine bS ?_ GE320.out|refine bS ?_ GE331.out|refine bS ?_ GE348.out|refine bS ?_ GE358.out)|exact HB.out))⟩)
                       ·skip
                        refine box_step ?hg (N := 9) ?hd (cs := #[.slice none 0 0, .slice none 0 0]) (t := 26) ?hr ?_; (case hd => rfl); (case hg => rfl); (case hr => first | (go_simp; done) | (go_simp; rfl))
                        intro gb358 hg w93 hbox hb
                        have HS10_ := (hb.cell (World.block_lt_of_cell? _ _ (hHeld.2.2.2.2.2.2.2.2.2.2))).trans (hHeld.2.2.2.2.2.2.2.2.2.2)
                        have n0_ := aM (Kd.R_below (by (with_reducible repeat (first|apply rA|apply rN|apply rD)); exact HO_5.out) hb)
                        have n1_ := aM (Kd.R_below (by (with_reducible repeat (first|apply rA|apply rN|apply rD)); exact HO_332000.out) hb)
                        have n2_ := aM (Kd.R_below (by (with_reducible repeat (first|apply rA|apply rN|apply rD)); exact HO_332001.out) hb)
                        have n3_ := aM (Kd.R_below (by (with_reducible repeat (first|apply rA|apply rN|apply rD)); exact HO343.out) hb)
                        have n4_ := aM (Kd.R_below (by (with_reducible repeat (first|apply rA|apply rN|apply rD)); exact HO346.out) hb)
                        have n5_ := aM (blk_below (g := gb320) (o := .cells #[.slice (some ad340) l0_0.length c0_0, .slice A0_1 l0_1.length c0_1, .slice A0_2 l0_2.length c0_2, .slice A0_3 l0_3.length c0_3, .int .i64 a0_4, .int .i64 a0_5, .int .i64 a0_6] 47 (0, 0)) (by (with_reducible repeat (first|apply kN|apply kD|apply kA)); exact BK320.out) hb)
                        have n6_ := aM (blk_below (g := gb331) (o := .cells #[.slice Ao21 t324.length co21, .slice Ao24 t327.length co24] 26 (0, 0)) (by (with_reducible repeat (first|apply kN|apply kD|apply kA)); exact BK331.out) hb)
                        have n7_ := aM (blk_below (g := gb348) (o := .cells #[.slice Ao86 t341.length co86, .slice Ao88 t344.length co88] 26 (0, 0)) (by (with_reducible repeat (first|apply kN|apply kD|apply kA)); exact BK348.out) hb)
                        have n8_ := aM (below_step (by repeat (first | (with_reducible first|exact HB.out|apply bA|apply bN|apply bD|refine bS ?_ GE320.out|refine bS ?_ GE331.out|refine bS ?_ GE348.out)|exact HB.out)) hb)
                        have n9_ := aM (hbox)
                        have n10_ := aM ((by rw [hg]; exact (below_size (by repeat (first | (with_reducible first|exact HB.out|apply bA|apply bN|apply bD|refine bS ?_ GE320.out|refine bS ?_ GE331.out|refine bS ?_ GE348.out)|exact HB.out))) : w.heap.size ≤ gb358))
                        have n11_ := aM ((by rw [hg]; exact (below_size (by repeat (first | (with_reducible first|exact HB.out|apply bA|apply bN|apply bD|refine bS ?_ GE320.out|refine bS ?_ GE331.out|refine bS ?_ GE348.out)|exact HB.out))) : w.heap.size ≤ gb358))
                        have n12_ := aM ((by rw [hg]; exact Nat.ne_of_lt (blk_lt (g := gb320) (o := .cells #[.slice (some ad340) l0_0.length c0_0, .slice A0_1 l0_1.length c0_1, .slice A0_2 l0_2.length c0_2, .slice A0_3 l0_3.length c0_3, .int .i64 a0_4, .int .i64 a0_5, .int .i64 a0_6] 47 (0, 0)) (by (with_reducible repeat (first|apply kN|apply kD|apply kA)); exact BK320.out)) : gb320 ≠ gb358))
                        have n13_ := aM ((by rw [hg]; exact Nat.ne_of_gt (blk_lt (g := gb320) (o := .cells #[.slice (some ad340) l0_0.length c0_0, .slice A0_1 l0_1.length c0_1, .slice A0_2 l0_2.length c0_2, .slice A0_3 l0_3.length c0_3, .int .i64 a0_4, .int .i64 a0_5, .int .i64 a0_6] 47 (0, 0)) (by (with_reducible repeat (first|apply kN|apply kD|apply kA)); exact BK320.out)) : gb358 ≠ gb320))
                        have n14_ := aM ((by rw [hg]; exact Nat.ne_of_lt (blk_lt (g := gb331) (o := .cells #[.slice Ao21 t324.length co21, .slice Ao24 t327.length co24] 26 (0, 0)) (by (with_reducible repeat (first|apply kN|apply kD|apply kA)); exact BK331.out)) : gb331 ≠ gb358))
                        have n15_ := aM ((by rw [hg]; exact Nat.ne_of_gt (blk_lt (g := gb331) (o := .cells #[.slice Ao21 t324.length co21, .slice Ao24 t327.length co24] 26 (0, 0)) (by (with_reducible repeat (first|apply kN|apply kD|apply kA)); exact BK331.out)) : gb358 ≠ gb331))
                        have n16_ := aM ((by rw [hg]; exact Nat.ne_of_lt (blk_lt (g := gb348) (o := .cells #[.slice Ao86 t341.length co86, .slice Ao88 t344.length co88] 26 (0, 0)) (by (with_reducible repeat (first|apply kN|apply kD|apply kA)); exact BK348.out)) : gb348 ≠ gb358))
                        have n17_ := aM ((by rw [hg]; exact Nat.ne_of_gt (blk_lt (g := gb348) (o := .cells #[.slice Ao86 t341.length co86, .slice Ao88 t344.length co88] 26 (0, 0)) (by (with_reducible repeat (first|apply kN|apply kD|apply kA)); exact BK348.out)) : gb358 ≠ gb348))
                        clear HO_5
                        clear HO_332000
                        clear HO_332001
                        clear HO343
                        clear HO346
                        clear BK320
                        clear BK331
                        clear BK348
                        clear HB
                        have HO_5 := n0_
                        have HO_332000 := n1_
                        have HO_332001 := n2_
                        have HO343 := n3_
                        have HO346 := n4_
                        have BK320 := n5_
                        have BK331 := n6_
                        have BK348 := n7_
                        have HB := n8_
                        have BK358 := n9_
                        have GW358 := n10_
                        have GE358 := n11_
                        have NB320_358 := n12_
                        have NB358_320 := n13_
                        have NB331_358 := n14_
                        have NB358_331 := n15_
                        have NB348_358 := n16_
                        have NB358_348 := n17_
                        clear n0_ n1_ n2_ n3_ n4_ n5_ n6_ n7_ n8_ n9_ n10_ n11_ n12_ n13_ n14_ n15_ n16_ n17_
                        clear hb hbox hg
                        refine hK.out _ _ ⟨(blk_cell BK331.out 0).trans rfl, (blk_cell BK331.out 1).trans rfl, (blk_cell BK320.out 0).trans rfl, (blk_cell BK320.out 1).trans rfl, (blk_cell BK320.out 2).trans rfl, (blk_cell BK320.out 3).trans rfl, (blk_cell BK320.out 4).trans rfl, (blk_cell BK320.out 5).trans rfl, (blk_cell BK320.out 6).trans rfl, ((HB.out.cell (World.block_lt_of_cell? w _ hw349_0)).trans hw349_0), HS10_⟩ (fun hHeld => ?_)
                        clear hK K
                        refine norm_ (a' := ?_) ?_ ?_
                        rotate_left
                        ·show Act.put _ (some 9) _ = _
                         simp only [Act.put, List.setIfInBounds_toArray, List.set_cons_zero, List.set_cons_succ, i64_w, i32_w]
                         rfl
                        refine one_ (i := 15) (N := some 139) (JoinW.bA 22 589823) rfl rfl (one_of HT_.out (by kernel_rfl)) (by decide) (fun K hK => ?_)
                        refine goes_ Try.func28 (by kernel_rfl) rfl #[.agg #[.slice Ao21 t324.length co21, .slice Ao24 t327.length co24], .int .i64 a0_4, .int .i64 (rd l0_0 a0_4), .int .i64 (rd t335 a0_4)] (by rfl) rfl rfl (by (try simp only [List.map_toArray, List.map_cons, List.map_nil]); first | done | rfl | (simp only [List.length_drop, List.length_take]; rfl)) ?_
                        with_reducible refine (tensor_Grid_fix_F_Cut.calls _ _ t324 _ _ t327 a0_4 (rd l0_0 a0_4) (rd t335 a0_4) t351 t354 t357 _ ?side1 ?side2 ?side3 ?side4 A66.out).mono ?_
                        (case side1 => repeat (first|exact (Kd.R_reads' HO_332000.out).2.2 | with_reducible first|apply cA|apply cN|apply cD))
                        (case side2 => exact (Kd.R_reads' HO_332000.out).2.1)
                        (case side3 => repeat (first|exact (Kd.R_reads' HO_332001.out).2.2 | with_reducible first|apply cA|apply cN|apply cD))
                        (case side4 => exact (Kd.R_reads' HO_332001.out).2.1)
                        rintro e w94 ⟨v352, v355, rfl, ho0, ho1, hb⟩
                        have HS10_ := (hb.cell (World.block_lt_of_cell? _ _ (hHeld.2.2.2.2.2.2.2.2.2.2))).trans (hHeld.2.2.2.2.2.2.2.2.2.2)
                        refine ⟨_, rfl, ?_⟩
                        have n0_ := aM (Kd.R_elder' (by (with_reducible repeat (first|apply rA|apply rN|apply rD)); exact HO_5.out) (Kd.R_base ho0) hb)
                        have n1_ := aM (Kd.R_elder' (by (with_reducible repeat (first|apply rA|apply rN|apply rD)); exact HO_332000.out) (Kd.R_base ho0) hb)
                        have n2_ := aM (Kd.R_elder' (by (with_reducible repeat (first|apply rA|apply rN|apply rD)); exact HO_332001.out) (Kd.R_base ho1) hb)
                        have n3_ := aM (Kd.R_elder' (by (with_reducible repeat (first|apply rA|apply rN|apply rD)); exact HO343.out) (Kd.R_base ho0) hb)
                        have n4_ := aM (Kd.R_elder' (by (with_reducible repeat (first|apply rA|apply rN|apply rD)); exact HO346.out) (Kd.R_base ho1) hb)
                        have n5_ := aM (Kd.R_lower (Kd.R_new' (Kd.R_new' (Kd.R_new' ho0 (Kd.R_lt (by (with_reducible repeat (first|apply rA|apply rN|apply rD)); exact HO_5.out))) (Kd.R_lt (by (with_reducible repeat (first|apply rA|apply rN|apply rD)); exact HO_332000.out))) (Kd.R_lt (by (with_reducible repeat (first|apply rA|apply rN|apply rD)); exact HO343.out))) (below_size (by repeat (first | (with_reducible first|exact HB.out|apply bA|apply bN|apply bD|refine bS ?_ GE320.out|refine bS ?_ GE331.out|refine bS ?_ GE348.out|refine bS ?_ GE358.out)|exact HB.out))))
                        have n6_ := aM (Kd.R_lower (Kd.R_new' (Kd.R_new' ho1 (Kd.R_lt (by (with_reducible repeat (first|apply rA|apply rN|apply rD)); exact HO_332001.out))) (Kd.R_lt (by (with_reducible repeat (first|apply rA|apply rN|apply rD)); exact HO346.out))) (below_size (by repeat (first | (with_reducible first|exact HB.out|apply bA|apply bN|apply bD|refine bS ?_ GE320.out|refine bS ?_ GE331.out|refine bS ?_ GE348.out|refine bS ?_ GE358.out)|exact HB.out))))
                        have n7_ := aM (blk_below (g := gb320) (o := .cells #[.slice (some ad340) l0_0.length c0_0, .slice A0_1 l0_1.length c0_1, .slice A0_2 l0_2.length c0_2, .slice A0_3 l0_3.length c0_3, .int .i64 a0_4, .int .i64 a0_5, .int .i64 a0_6] 47 (0, 0)) (by (with_reducible repeat (first|apply kN|apply kD|apply kA)); exact BK320.out) hb)
                        have n8_ := aM (blk_below (g := gb331) (o := .cells #[.slice Ao21 t324.length co21, .slice Ao24 t327.length co24] 26 (0, 0)) (by (with_reducible repeat (first|apply kN|apply kD|apply kA)); exact BK331.out) hb)
                        have n9_ := aM (blk_below (g := gb348) (o := .cells #[.slice Ao86 t341.length co86, .slice Ao88 t344.length co88] 26 (0, 0)) (by (with_reducible repeat (first|apply kN|apply kD|apply kA)); exact BK348.out) hb)
                        have n10_ := aM (blk_below (g := gb358) (o := .cells #[.slice none 0 0, .slice none 0 0] 26 (0, 0)) (by (with_reducible repeat (first|apply kN|apply kD|apply kA)); exact BK358.out) hb)
                        have n11_ := aM (below_step (by repeat (first | (with_reducible first|exact HB.out|apply bA|apply bN|apply bD|refine bS ?_ GE320.out|refine bS ?_ GE331.out|refine bS ?_ GE348.out|refine bS ?_ GE358.out)|exact HB.out)) hb)
                        clear HO_5
                        clear HO_332000
                        clear HO_332001
                        clear HO343
                        clear HO346
                        clear BK320
                        clear BK331
                        clear BK348
                        clear BK358
                        clear HB
                        have HO_5 := n0_
                        have HO_332000 := n1_
                        have HO_332001 := n2_
                        have HO343 := n3_
                        have HO346 := n4_
                        have HO353 := n5_
                        have HO356 := n6_
                        have BK320 := n7_
                        have BK331 := n8_
                        have BK348 := n9_
                        have BK358 := n10_
                        have HB := n11_
                        clear n0_ n1_ n2_ n3_ n4_ n5_ n6_ n7_ n8_ n9_ n10_ n11_
                        (try clear hb)
                        skip
                        (try clear hk)
                        skip
                        (try clear ho0)
                        (try clear ho1)
                        refine hK.out _ _ ⟨(blk_cell BK331.out 0).trans rfl, (blk_cell BK331.out 1).trans rfl, (blk_cell BK320.out 0).trans rfl, (blk_cell BK320.out 1).trans rfl, (blk_cell BK320.out 2).trans rfl, (blk_cell BK320.out 3).trans rfl, (blk_cell BK320.out 4).trans rfl, (blk_cell BK320.out 5).trans rfl, (blk_cell BK320.out 6).trans rfl, ((HB.out.cell (World.block_lt_of_cell? w _ hw349_0)).trans hw349_0), HS10_⟩ (fun hHeld => ?_)
                        clear hK K
                        refine norm_ (a' := ?_) ?_ ?_
                        rotate_left
                        ·show Act.put _ (some 139) _ = _
                         simp only [Act.put, List.setIfInBounds_toArray, List.set_cons_zero, List.set_cons_succ, i64_w, i32_w]
                         rfl
                        refine pure_ (i := 16) (N := some 123) (JoinW.bA 22 655359) rfl rfl (any_of HT_.out (by kernel_rfl)) (fun _ _ _ h => h) (Or.inl ⟨by rfl, by intro w'; go_simp; with_reducible rfl⟩) (by simp only [Act.put, List.setIfInBounds_toArray, List.set_cons_zero, List.set_cons_succ, i64_w, i32_w]; rfl) ?_
                        refine pure_ (i := 17) (N := some 140) (JoinW.bA 22 786431) rfl rfl (any_of HT_.out (by kernel_rfl)) (fun _ _ _ h => h) (Or.inl ⟨by rfl, by intro w'; go_simp; with_reducible rfl⟩) (by simp only [Act.put, List.setIfInBounds_toArray, List.set_cons_zero, List.set_cons_succ, i64_w, i32_w]; rfl) ?_
                        refine pure_ (i := 18) (N := some 141) (JoinW.bA 22 1048575) rfl rfl (any_of HT_.out (by kernel_rfl)) (fun _ _ _ h => h) (Or.inl ⟨by rfl, by intro w'; go_simp; with_reducible rfl⟩) (by simp only [Act.put, List.setIfInBounds_toArray, List.set_cons_zero, List.set_cons_succ, i64_w, i32_w]; rfl) ?_
                        exact norm_ (by simp only [putAll, Act.put, List.setIfInBounds_toArray, List.set_cons_zero, List.set_cons_succ]) (hCont (v352, v355, gb358) _ ⟨hHeld, (by (with_reducible repeat (first|apply rA|apply rN|apply rD)); exact Kd.R_mono HO343.out (fun _ hk => ⟨hk.2, ⟨hk.1.2, hk.1.1⟩⟩)), (by (with_reducible repeat (first|apply rA|apply rN|apply rD)); exact Kd.R_mono HO346.out (fun _ hk => ⟨hk.2, hk.1⟩)), (by (with_reducible repeat (first|apply rA|apply rN|apply rD)); exact Kd.R_mono HO353.out (fun _ hk => ⟨hk.2, ⟨hk.1.2, hk.1.1.2⟩⟩)), (by (with_reducible repeat (first|apply rA|apply rN|apply rD)); exact Kd.R_mono HO356.out (fun _ hk => ⟨hk.2, hk.1.2⟩)), (by (with_reducible repeat (first|apply rA|apply rN|apply rD)); exact Kd.R_mono HO_332000.out (fun _ hk => ⟨hk.1.2, ⟨hk.2, hk.1.1⟩⟩)), (by (with_reducible repeat (first|apply rA|apply rN|apply rD)); exact HO_332001.out), (by (with_reducible repeat (first|apply rA|apply rN|apply rD)); exact Kd.R_mono HO_5.out (fun _ hk => ⟨hk.1.2, ⟨hk.2, hk.1.1⟩⟩)), (by (with_reducible repeat (first|apply kN|apply kD|apply kA)); exact BK320.out), (by (with_reducible repeat (first|apply kN|apply kD|apply kA)); exact BK331.out), (by (with_reducible repeat (first|apply kN|apply kD|apply kA)); exact BK348.out), (by (with_reducible repeat (first|apply kN|apply kD|apply kA)); exact BK358.out), GW358.out, GE358.out, NB320_358.out, NB358_320.out, NB331_358.out, NB358_331.out, NB348_358.out, NB358_348.out, (by repeat (first | (with_reducible first|exact HB.out|apply bA|apply bN|apply bD|refine bS ?_ GE320.out|refine bS ?_ GE331.out|refine bS ?_ GE348.out|refine bS ?_ GE358.out)|exact HB.out))⟩)
                      rintro ⟨v352, v355, gb358⟩ w95 ⟨hS_, h0_, h1_, h2_, h3_, h4_, h5_, h6_, h7_, h8_, h9_, h10_, h11_, h12_, h13_, h14_, h15_, h16_, h17_, h18_, h19_⟩
                      have n0_ : Aside0 (Kd.R (Kd.int .i64) 3 w95 w.heap.size (fun k_ => some k_ ≠ (v352 : Value).ownBlock ∧ some k_ ≠ (.slice Ao21 t324.length co21 : Value).ownBlock ∧ some k_ ≠ (.slice (some ad350) t335.length co92 : Value).ownBlock) (.slice Ao86 t341.length co86) t341) := ⟨h0_⟩
                      have n1_ : Aside0 (Kd.R (Kd.int .i64) 27 w95 w.heap.size (fun k_ => some k_ ≠ (v355 : Value).ownBlock ∧ some k_ ≠ (.slice Ao24 t327.length co24 : Value).ownBlock) (.slice Ao88 t344.length co88) t344) := ⟨h1_⟩
                      have n2_ : Aside0 (Kd.R (Kd.int .i64) 3 w95 w.heap.size (fun k_ => some k_ ≠ (.slice Ao86 t341.length co86 : Value).ownBlock ∧ some k_ ≠ (.slice Ao21 t324.length co21 : Value).ownBlock ∧ some k_ ≠ (.slice (some ad350) t335.length co92 : Value).ownBlock) v352 t351) := ⟨h2_⟩
                      have n3_ : Aside0 (Kd.R (Kd.int .i64) 27 w95 w.heap.size (fun k_ => some k_ ≠ (.slice Ao88 t344.length co88 : Value).ownBlock ∧ some k_ ≠ (.slice Ao24 t327.length co24 : Value).ownBlock) v355 t354) := ⟨h3_⟩
                      have n4_ : Aside0 (Kd.R (Kd.int .i64) 3 w95 w.heap.size (fun k_ => some k_ ≠ (.slice Ao86 t341.length co86 : Value).ownBlock ∧ some k_ ≠ (v352 : Value).ownBlock ∧ some k_ ≠ (.slice (some ad350) t335.length co92 : Value).ownBlock) (.slice Ao21 t324.length co21) t324) := ⟨h4_⟩
                      have n5_ : Aside0 (Kd.R (Kd.int .i64) 27 w95 w.heap.size (fun k_ => some k_ ≠ (.slice Ao88 t344.length co88 : Value).ownBlock ∧ some k_ ≠ (v355 : Value).ownBlock) (.slice Ao24 t327.length co24) t327) := ⟨h5_⟩
                      have n6_ : Aside0 (Kd.R (Kd.int .i64) 3 w95 w.heap.size (fun k_ => some k_ ≠ (.slice Ao86 t341.length co86 : Value).ownBlock ∧ some k_ ≠ (v352 : Value).ownBlock ∧ some k_ ≠ (.slice Ao21 t324.length co21 : Value).ownBlock) (.slice (some ad350) t335.length co92) t335) := ⟨h6_⟩
                      have n7_ : Aside0 (w95.heap[gb320]? = some (.cells #[.slice (some ad340) l0_0.length c0_0, .slice A0_1 l0_1.length c0_1, .slice A0_2 l0_2.length c0_2, .slice A0_3 l0_3.length c0_3, .int .i64 a0_4, .int .i64 a0_5, .int .i64 a0_6] 47 (0, 0))) := ⟨h7_⟩
                      have n8_ : Aside0 (w95.heap[gb331]? = some (.cells #[.slice Ao21 t324.length co21, .slice Ao24 t327.length co24] 26 (0, 0))) := ⟨h8_⟩
                      have n9_ : Aside0 (w95.heap[gb348]? = some (.cells #[.slice Ao86 t341.length co86, .slice Ao88 t344.length co88] 26 (0, 0))) := ⟨h9_⟩
                      have n10_ : Aside0 (w95.heap[gb358]? = some (.cells #[.slice none 0 0, .slice none 0 0] 26 (0, 0))) := ⟨h10_⟩
                      have n11_ : Aside0 (w.heap.size ≤ gb358) := ⟨h11_⟩
                      have n12_ : Aside0 (w.heap.size ≤ gb358) := ⟨h12_⟩
                      have n13_ : Aside0 (gb320 ≠ gb358) := ⟨h13_⟩
                      have n14_ : Aside0 (gb358 ≠ gb320) := ⟨h14_⟩
                      have n15_ : Aside0 (gb331 ≠ gb358) := ⟨h15_⟩
                      have n16_ : Aside0 (gb358 ≠ gb331) := ⟨h16_⟩
                      have n17_ : Aside0 (gb348 ≠ gb358) := ⟨h17_⟩
                      have n18_ : Aside0 (gb358 ≠ gb348) := ⟨h18_⟩
                      have n19_ : Aside0 (Below w.heap.size w w95) := ⟨h19_⟩
                      clear HO_5
                      clear HO_332000
                      clear HO_332001
                      clear HO343
                      clear HO346
                      clear BK320
                      clear BK331
                      clear BK348
                      clear HB
                      clear h0_ h1_ h2_ h3_ h4_ h5_ h6_ h7_ h8_ h9_ h10_ h11_ h12_ h13_ h14_ h15_ h16_ h17_ h18_ h19_
                      have HO343 := n0_
                      have HO346 := n1_
                      have HO353 := n2_
                      have HO356 := n3_
                      have HO_332000 := n4_
                      have HO_332001 := n5_
                      have HO_5 := n6_
                      have BK320 := n7_
                      have BK331 := n8_
                      have BK348 := n9_
                      have BK358 := n10_
                      have GW358 := n11_
                      have GE358 := n12_
                      have NB320_358 := n13_
                      have NB358_320 := n14_
                      have NB331_358 := n15_
                      have NB358_331 := n16_
                      have NB348_358 := n17_
                      have NB358_348 := n18_
                      have HB := n19_
                      clear n0_ n1_ n2_ n3_ n4_ n5_ n6_ n7_ n8_ n9_ n10_ n11_ n12_ n13_ n14_ n15_ n16_ n17_ n18_ n19_
                      have hHeld : w95.cell? ⟨gb331, 0, none⟩ = some (.slice Ao21 t324.length co21) ∧ w95.cell? ⟨gb331, 1, none⟩ = some (.slice Ao24 t327.length co24) ∧ w95.cell? ⟨gb320, 0, none⟩ = some (.slice (some ad340) l0_0.length c0_0) ∧ w95.cell? ⟨gb320, 1, none⟩ = some (.slice A0_1 l0_1.length c0_1) ∧ w95.cell? ⟨gb320, 2, none⟩ = some (.slice A0_2 l0_2.length c0_2) ∧ w95.cell? ⟨gb320, 3, none⟩ = some (.slice A0_3 l0_3.length c0_3) ∧ w95.cell? ⟨gb320, 4, none⟩ = some (.int .i64 a0_4) ∧ w95.cell? ⟨gb320, 5, none⟩ = some (.int .i64 a0_5) ∧ w95.cell? ⟨gb320, 6, none⟩ = some (.int .i64 a0_6) ∧ w95.cell? (ad340.add (a0_4).toNat) = some (.int .i64 (rd l0_0 a0_4)) ∧ w95.cell? (ad350.add (a0_4).toNat) = some (.int .i64 (rd t335 a0_4)) := hS_
                      obtain ⟨Ao96, co96, eo96⟩ := Kd.R_slice HO353.out
                      (first | subst eo96 | (injection eo96 with f1_ f2_ f3_; have f4_ := f1_.symm; have f5_ := f3_.symm; clear f1_ f2_ f3_; subst f4_; subst f5_))
                      obtain ⟨Ao98, co98, eo98⟩ := Kd.R_slice HO356.out
                      (first | subst eo98 | (injection eo98 with f1_ f2_ f3_; have f4_ := f1_.symm; have f5_ := f3_.symm; clear f1_ f2_ f3_; subst f4_; subst f5_))
                      refine norm_ (a' := ?_) ?_ ?_
                      rotate_left
                      ·simp only [putAll, Act.put, List.setIfInBounds_toArray, List.set_cons_zero, List.set_cons_succ]
                       rfl
                      refine one_ (i := 20) (N := none) (JoinW.bA 22 2097151) rfl rfl (one_of HT_.out (by kernel_rfl)) (by decide) (fun K hK => ?_)
                      have hs97 : w95.cell? ⟨gb358, 0, none⟩ = some (.slice none 0 0) := (blk_cell BK358.out 0).trans rfl
                      have hfs97 := blk_frozen BK358.out 0
                      have hns97_0 := NB320_358.out
                      have hns97_1 := NB331_358.out
                      have hns97_2 := NB348_358.out
                      have hms97_0 := NB358_320.out
                      have hms97_1 := NB358_331.out
                      have hms97_2 := NB358_348.out
                      have hs99 : w95.cell? ⟨gb358, 1, none⟩ = some (.slice none 0 0) := (blk_cell BK358.out 1).trans rfl
                      have hfs99 := blk_frozen BK358.out 1
                      have hns99_0 := NB320_358.out
                      have hns99_1 := NB331_358.out
                      have hns99_2 := NB348_358.out
                      have hms99_0 := NB358_320.out
                      have hms99_1 := NB358_331.out
                      have hms99_2 := NB358_348.out
                      refine skip_ (w1 := ?_) (by rfl) rfl ?_ ?_
                      rotate_left
                      ·go_simp
                       rfl
                      refine hK.out _ _ ⟨((cell_far (p := ⟨gb358, _, none⟩) NB331_358.out _).trans (((cell_far (p := ⟨gb358, _, none⟩) NB331_358.out _).trans (hHeld.1)))), ((cell_far (p := ⟨gb358, _, none⟩) NB331_358.out _).trans (((cell_far (p := ⟨gb358, _, none⟩) NB331_358.out _).trans (hHeld.2.1)))), ((cell_far (p := ⟨gb358, _, none⟩) NB320_358.out _).trans (((cell_far (p := ⟨gb358, _, none⟩) NB320_358.out _).trans (hHeld.2.2.1)))), ((cell_far (p := ⟨gb358, _, none⟩) NB320_358.out _).trans (((cell_far (p := ⟨gb358, _, none⟩) NB320_358.out _).trans (hHeld.2.2.2.1)))), ((cell_far (p := ⟨gb358, _, none⟩) NB320_358.out _).trans (((cell_far (p := ⟨gb358, _, none⟩) NB320_358.out _).trans (hHeld.2.2.2.2.1)))), ((cell_far (p := ⟨gb358, _, none⟩) NB320_358.out _).trans (((cell_far (p := ⟨gb358, _, none⟩) NB320_358.out _).trans (hHeld.2.2.2.2.2.1)))), ((cell_far (p := ⟨gb358, _, none⟩) NB320_358.out _).trans (((cell_far (p := ⟨gb358, _, none⟩) NB320_358.out _).trans (hHeld.2.2.2.2.2.2.1)))), ((cell_far (p := ⟨gb358, _, none⟩) NB320_358.out _).trans (((cell_far (p := ⟨gb358, _, none⟩) NB320_358.out _).trans (hHeld.2.2.2.2.2.2.2.1)))), ((cell_far (p := ⟨gb358, _, none⟩) NB320_358.out _).trans (((cell_far (p := ⟨gb358, _, none⟩) NB320_358.out _).trans (hHeld.2.2.2.2.2.2.2.2.1)))), ((cell_far (p := ⟨gb358, _, none⟩) (by first|exact Nat.ne_of_lt (Nat.lt_of_lt_of_le (by have := World.block_lt_of_cell? _ _ hw349_0; first | rwa [add_block] at this|exact this) GW358.out) | (rw [add_block]; exact Nat.ne_of_lt (Nat.lt_of_lt_of_le (by have := World.block_lt_of_cell? _ _ hw349_0; first | rwa [add_block] at this|exact this) GW358.out)) | (show (Addr.add _ _).block ≠ _; rw [add_block]; exact Nat.ne_of_lt (Nat.lt_of_lt_of_le (by have := World.block_lt_of_cell? _ _ hw349_0; first | rwa [add_block] at this|exact this) GW358.out)) | (dsimp only; exact Nat.ne_of_lt (Nat.lt_of_lt_of_le (by have := World.block_lt_of_cell? _ _ hw349_0; first | rwa [add_block] at this|exact this) GW358.out))) _).trans (((cell_far (p := ⟨gb358, _, none⟩) (by first|exact Nat.ne_of_lt (Nat.lt_of_lt_of_le (by have := World.block_lt_of_cell? _ _ hw349_0; first | rwa [add_block] at this|exact this) GW358.out) | (rw [add_block]; exact Nat.ne_of_lt (Nat.lt_of_lt_of_le (by have := World.block_lt_of_cell? _ _ hw349_0; first | rwa [add_block] at this|exact this) GW358.out)) | (show (Addr.add _ _).block ≠ _; rw [add_block]; exact Nat.ne_of_lt (Nat.lt_of_lt_of_le (by have := World.block_lt_of_cell? _ _ hw349_0; first | rwa [add_block] at this|exact this) GW358.out)) | (dsimp only; exact Nat.ne_of_lt (Nat.lt_of_lt_of_le (by have := World.block_lt_of_cell? _ _ hw349_0; first | rwa [add_block] at this|exact this) GW358.out))) _).trans (hHeld.2.2.2.2.2.2.2.2.2.1)))), ((cell_far (p := ⟨gb358, _, none⟩) (by first|exact Kd.own_blk (Kd.R_ne HO_5.out BK358.out (by decide)) | (rw [add_block]; exact Kd.own_blk (Kd.R_ne HO_5.out BK358.out (by decide))) | (show (Addr.add _ _).block ≠ _; rw [add_block]; exact Kd.own_blk (Kd.R_ne HO_5.out BK358.out (by decide))) | (dsimp only; exact Kd.own_blk (Kd.R_ne HO_5.out BK358.out (by decide)))) _).trans (((cell_far (p := ⟨gb358, _, none⟩) (by first|exact Kd.own_blk (Kd.R_ne HO_5.out BK358.out (by decide)) | (rw [add_block]; exact Kd.own_blk (Kd.R_ne HO_5.out BK358.out (by decide))) | (show (Addr.add _ _).block ≠ _; rw [add_block]; exact Kd.own_blk (Kd.R_ne HO_5.out BK358.out (by decide))) | (dsimp only; exact Kd.own_blk (Kd.R_ne HO_5.out BK358.out (by decide)))) _).trans (hHeld.2.2.2.2.2.2.2.2.2.2))))⟩ (fun hHeld => ?_)
                      clear hK K
                      refine pure_ (i := 21) (N := some 10) (JoinW.bA 22 4194303) rfl rfl (any_of HT_.out (by kernel_rfl)) (fun _ _ _ h => h) (Or.inl ⟨by rfl, by intro w'; go_simp; with_reducible rfl⟩) (by simp only [Act.put, List.setIfInBounds_toArray, List.set_cons_zero, List.set_cons_succ, i64_w, i32_w]; rfl) ?_
                      refine done_ (done_of HT_.out (by kernel_rfl)) ?_
                      try go_wp2
                      have n0_ : Aside0 (Kd.R (Kd.int .i64) 3 ((w95.setCell ⟨gb358, 0, none⟩ (.slice Ao96 t351.length co96)).setCell ⟨gb358, 1, none⟩ (.slice Ao98 t354.length co98)) w.heap.size (fun k_ => some k_ ≠ (.slice Ao21 t324.length co21 : Value).ownBlock ∧ some k_ ≠ (.slice Ao86 t341.length co86 : Value).ownBlock ∧ some k_ ≠ (.slice Ao96 t351.length co96 : Value).ownBlock) (.slice (some ad350) t335.length co92) t335) := ⟨by (with_reducible repeat (first|apply rA|apply rN|apply rD)); exact Kd.R_mono (Kd.R_far (p := ⟨gb358, 1, none⟩) (Kd.R_far (p := ⟨gb358, 0, none⟩) (Kd.R_types HO_5.out BK358.out (by decide)) (fun _ hk => hk.2) (.slice Ao96 t351.length co96)) (fun _ hk => hk.2) (.slice Ao98 t354.length co98)) (fun _ hk => ⟨hk.1.2.2, ⟨hk.1.1, hk.1.2.1⟩⟩)⟩
                      have n1_ : Aside0 (Kd.R (Kd.int .i64) 3 ((w95.setCell ⟨gb358, 0, none⟩ (.slice Ao96 t351.length co96)).setCell ⟨gb358, 1, none⟩ (.slice Ao98 t354.length co98)) w.heap.size (fun k_ => some k_ ≠ (.slice (some ad350) t335.length co92 : Value).ownBlock ∧ some k_ ≠ (.slice Ao86 t341.length co86 : Value).ownBlock ∧ some k_ ≠ (.slice Ao96 t351.length co96 : Value).ownBlock) (.slice Ao21 t324.length co21) t324) := ⟨by (with_reducible repeat (first|apply rA|apply rN|apply rD)); exact Kd.R_mono (Kd.R_far (p := ⟨gb358, 1, none⟩) (Kd.R_far (p := ⟨gb358, 0, none⟩) (Kd.R_types HO_332000.out BK358.out (by decide)) (fun _ hk => hk.2) (.slice Ao96 t351.length co96)) (fun _ hk => hk.2) (.slice Ao98 t354.length co98)) (fun _ hk => ⟨hk.1.2.2, ⟨hk.1.1, hk.1.2.1⟩⟩)⟩
                      have n2_ : Aside0 (Kd.R (Kd.int .i64) 27 ((w95.setCell ⟨gb358, 0, none⟩ (.slice Ao96 t351.length co96)).setCell ⟨gb358, 1, none⟩ (.slice Ao98 t354.length co98)) w.heap.size (fun k_ => some k_ ≠ (.slice Ao88 t344.length co88 : Value).ownBlock ∧ some k_ ≠ (.slice Ao98 t354.length co98 : Value).ownBlock) (.slice Ao24 t327.length co24) t327) := ⟨by (with_reducible repeat (first|apply rA|apply rN|apply rD)); exact Kd.R_mono (Kd.R_far (p := ⟨gb358, 1, none⟩) (Kd.R_far (p := ⟨gb358, 0, none⟩) (Kd.R_types HO_332001.out BK358.out (by decide)) (fun _ hk => hk.2) (.slice Ao96 t351.length co96)) (fun _ hk => hk.2) (.slice Ao98 t354.length co98)) (fun _ hk => ⟨hk.1.1, hk.1.2⟩)⟩
                      have n3_ : Aside0 (Kd.R (Kd.int .i64) 3 ((w95.setCell ⟨gb358, 0, none⟩ (.slice Ao96 t351.length co96)).setCell ⟨gb358, 1, none⟩ (.slice Ao98 t354.length co98)) w.heap.size (fun k_ => some k_ ≠ (.slice (some ad350) t335.length co92 : Value).ownBlock ∧ some k_ ≠ (.slice Ao21 t324.length co21 : Value).ownBlock ∧ some k_ ≠ (.slice Ao96 t351.length co96 : Value).ownBlock) (.slice Ao86 t341.length co86) t341) := ⟨by (with_reducible repeat (first|apply rA|apply rN|apply rD)); exact Kd.R_mono (Kd.R_far (p := ⟨gb358, 1, none⟩) (Kd.R_far (p := ⟨gb358, 0, none⟩) (Kd.R_types HO343.out BK358.out (by decide)) (fun _ hk => hk.2) (.slice Ao96 t351.length co96)) (fun _ hk => hk.2) (.slice Ao98 t354.length co98)) (fun _ hk => ⟨hk.1.2.2, ⟨hk.1.2.1, hk.1.1⟩⟩)⟩
                      have n4_ : Aside0 (Kd.R (Kd.int .i64) 27 ((w95.setCell ⟨gb358, 0, none⟩ (.slice Ao96 t351.length co96)).setCell ⟨gb358, 1, none⟩ (.slice Ao98 t354.length co98)) w.heap.size (fun k_ => some k_ ≠ (.slice Ao24 t327.length co24 : Value).ownBlock ∧ some k_ ≠ (.slice Ao98 t354.length co98 : Value).ownBlock) (.slice Ao88 t344.length co88) t344) := ⟨by (with_reducible repeat (first|apply rA|apply rN|apply rD)); exact Kd.R_mono (Kd.R_far (p := ⟨gb358, 1, none⟩) (Kd.R_far (p := ⟨gb358, 0, none⟩) (Kd.R_types HO346.out BK358.out (by decide)) (fun _ hk => hk.2) (.slice Ao96 t351.length co96)) (fun _ hk => hk.2) (.slice Ao98 t354.length co98)) (fun _ hk => ⟨hk.1.2, hk.1.1⟩)⟩
                      have n5_ : Aside0 (Kd.R (Kd.int .i64) 3 ((w95.setCell ⟨gb358, 0, none⟩ (.slice Ao96 t351.length co96)).setCell ⟨gb358, 1, none⟩ (.slice Ao98 t354.length co98)) w.heap.size (fun k_ => some k_ ≠ (.slice (some ad350) t335.length co92 : Value).ownBlock ∧ some k_ ≠ (.slice Ao21 t324.length co21 : Value).ownBlock ∧ some k_ ≠ (.slice Ao86 t341.length co86 : Value).ownBlock) (.slice Ao96 t351.length co96) t351) := ⟨by (with_reducible repeat (first|apply rA|apply rN|apply rD)); exact Kd.R_mono (Kd.R_far (p := ⟨gb358, 1, none⟩) (Kd.R_far (p := ⟨gb358, 0, none⟩) (Kd.R_types HO353.out BK358.out (by decide)) (fun _ hk => hk.2) (.slice Ao96 t351.length co96)) (fun _ hk => hk.2) (.slice Ao98 t354.length co98)) (fun _ hk => ⟨hk.1.2.2, ⟨hk.1.2.1, hk.1.1⟩⟩)⟩
                      have n6_ : Aside0 (Kd.R (Kd.int .i64) 27 ((w95.setCell ⟨gb358, 0, none⟩ (.slice Ao96 t351.length co96)).setCell ⟨gb358, 1, none⟩ (.slice Ao98 t354.length co98)) w.heap.size (fun k_ => some k_ ≠ (.slice Ao24 t327.length co24 : Value).ownBlock ∧ some k_ ≠ (.slice Ao88 t344.length co88 : Value).ownBlock) (.slice Ao98 t354.length co98) t354) := ⟨by (with_reducible repeat (first|apply rA|apply rN|apply rD)); exact Kd.R_mono (Kd.R_far (p := ⟨gb358, 1, none⟩) (Kd.R_far (p := ⟨gb358, 0, none⟩) (Kd.R_types HO356.out BK358.out (by decide)) (fun _ hk => hk.2) (.slice Ao96 t351.length co96)) (fun _ hk => hk.2) (.slice Ao98 t354.length co98)) (fun _ hk => ⟨hk.1.2, hk.1.1⟩)⟩
                      have n7_ : Aside0 (((w95.setCell ⟨gb358, 0, none⟩ (.slice Ao96 t351.length co96)).setCell ⟨gb358, 1, none⟩ (.slice Ao98 t354.length co98)).heap[gb320]? = some (.cells #[.slice (some ad340) l0_0.length c0_0, .slice A0_1 l0_1.length c0_1, .slice A0_2 l0_2.length c0_2, .slice A0_3 l0_3.length c0_3, .int .i64 a0_4, .int .i64 a0_5, .int .i64 a0_6] 47 (0, 0))) := ⟨by (with_reducible repeat (first|apply kN|apply kD|apply kA)); refine blk_far ?_ NB320_358.out _; (with_reducible repeat (first|apply kN|apply kD|apply kA)); refine blk_far ?_ NB320_358.out _; (with_reducible repeat (first|apply kN|apply kD|apply kA)); exact BK320.out⟩
                      have n8_ : Aside0 (((w95.setCell ⟨gb358, 0, none⟩ (.slice Ao96 t351.length co96)).setCell ⟨gb358, 1, none⟩ (.slice Ao98 t354.length co98)).heap[gb331]? = some (.cells #[.slice Ao21 t324.length co21, .slice Ao24 t327.length co24] 26 (0, 0))) := ⟨by (with_reducible repeat (first|apply kN|apply kD|apply kA)); refine blk_far ?_ NB331_358.out _; (with_reducible repeat (first|apply kN|apply kD|apply kA)); refine blk_far ?_ NB331_358.out _; (with_reducible repeat (first|apply kN|apply kD|apply kA)); exact BK331.out⟩
                      have n9_ : Aside0 (((w95.setCell ⟨gb358, 0, none⟩ (.slice Ao96 t351.length co96)).setCell ⟨gb358, 1, none⟩ (.slice Ao98 t354.length co98)).heap[gb348]? = some (.cells #[.slice Ao86 t341.length co86, .slice Ao88 t344.length co88] 26 (0, 0))) := ⟨by (with_reducible repeat (first|apply kN|apply kD|apply kA)); refine blk_far ?_ NB348_358.out _; (with_reducible repeat (first|apply kN|apply kD|apply kA)); refine blk_far ?_ NB348_358.out _; (with_reducible repeat (first|apply kN|apply kD|apply kA)); exact BK348.out⟩
                      have n10_ : Aside0 (((w95.setCell ⟨gb358, 0, none⟩ (.slice Ao96 t351.length co96)).setCell ⟨gb358, 1, none⟩ (.slice Ao98 t354.length co98)).heap[gb358]? = some (.cells #[.slice Ao96 t351.length co96, .slice Ao98 t354.length co98] 26 (0, 0))) := ⟨by (with_reducible repeat (first|apply kN|apply kD|apply kA)); refine blk_put (cs := #[.slice Ao96 t351.length co96, .slice none 0 0]) ?_ 1 _ rfl; (with_reducible repeat (first|apply kN|apply kD|apply kA)); refine blk_put (cs := #[.slice none 0 0, .slice none 0 0]) ?_ 0 _ rfl; (with_reducible repeat (first|apply kN|apply kD|apply kA)); exact BK358.out⟩
                      have n11_ : Aside0 (Below w.heap.size w ((w95.setCell ⟨gb358, 0, none⟩ (.slice Ao96 t351.length co96)).setCell ⟨gb358, 1, none⟩ (.slice Ao98 t354.length co98))) := ⟨by repeat (first | (with_reducible first|exact HB.out|apply bA|apply bN|apply bD|refine bS ?_ GE320.out|refine bS ?_ GE331.out|refine bS ?_ GE348.out|refine bS ?_ GE358.out)|exact HB.out)⟩
                      (try clear HO_5)
                      (try clear HO_332000)
                      (try clear HO_332001)
                      (try clear HO343)
                      (try clear HO346)
                      (try clear HO353)
                      (try clear HO356)
                      (try clear BK320)
                      (try clear BK331)
                      (try clear BK348)
                      (try clear BK358)
                      (try clear HB)
                      generalize ((w95.setCell ⟨gb358, 0, none⟩ (.slice Ao96 t351.length co96)).setCell ⟨gb358, 1, none⟩ (.slice Ao98 t354.length co98)) = w100 at n0_ n1_ n2_ n3_ n4_ n5_ n6_ n7_ n8_ n9_ n10_ n11_ ⊢
                      have HO_5 := n0_
                      have HO_332000 := n1_
                      have HO_332001 := n2_
                      have HO343 := n3_
                      have HO346 := n4_
                      have HO353 := n5_
                      have HO356 := n6_
                      have BK320 := n7_
                      have BK331 := n8_
                      have BK348 := n9_
                      have BK358 := n10_
                      have HB := n11_
                      clear n0_ n1_ n2_ n3_ n4_ n5_ n6_ n7_ n8_ n9_ n10_ n11_
                      have n0_ := aM (Kd.R_drew HO_5.out)
                      have n1_ := aM (Kd.R_drew HO_332000.out)
                      have n2_ := aM (Kd.R_drew HO_332001.out)
                      have n3_ := aM (Kd.R_drew HO343.out)
                      have n4_ := aM (Kd.R_drew HO346.out)
                      have n5_ := aM (Kd.R_drew HO353.out)
                      have n6_ := aM (Kd.R_drew HO356.out)
                      have n7_ := aM (blk_drew BK320.out)
                      have n8_ := aM (blk_drew BK331.out)
                      have n9_ := aM (blk_drew BK348.out)
                      have n10_ := aM (blk_drew BK358.out)
                      have n11_ := aM (below_drew1 HB.out)
                      clear HO_5
                      clear HO_332000
                      clear HO_332001
                      clear HO343
                      clear HO346
                      clear HO353
                      clear HO356
                      clear BK320
                      clear BK331
                      clear BK348
                      clear BK358
                      clear HB
                      have HO_5 := n0_
                      have HO_332000 := n1_
                      have HO_332001 := n2_
                      have HO343 := n3_
                      have HO346 := n4_
                      have HO353 := n5_
                      have HO356 := n6_
                      have BK320 := n7_
                      have BK331 := n8_
                      have BK348 := n9_
                      have BK358 := n10_
                      have HB := n11_
                      clear n0_ n1_ n2_ n3_ n4_ n5_ n6_ n7_ n8_ n9_ n10_ n11_
                      refine start_ (n := 51) (S := fun w' => w'.cell? ⟨gb331, 0, none⟩ = some (.slice Ao21 t324.length co21) ∧ w'.cell? ⟨gb331, 1, none⟩ = some (.slice Ao24 t327.length co24) ∧ w'.cell? ⟨gb320, 0, none⟩ = some (.slice (some ad340) l0_0.length c0_0) ∧ w'.cell? ⟨gb320, 1, none⟩ = some (.slice A0_1 l0_1.length c0_1) ∧ w'.cell? ⟨gb320, 2, none⟩ = some (.slice A0_2 l0_2.length c0_2) ∧ w'.cell? ⟨gb320, 3, none⟩ = some (.slice A0_3 l0_3.length c0_3) ∧ w'.cell? ⟨gb320, 4, none⟩ = some (.int .i64 a0_4) ∧ w'.cell? ⟨gb320, 5, none⟩ = some (.int .i64 a0_5) ∧ w'.cell? ⟨gb320, 6, none⟩ = some (.int .i64 a0_6) ∧ w'.cell? ⟨gb348, 0, none⟩ = some (.slice Ao86 t341.length co86) ∧ w'.cell? ⟨gb348, 1, none⟩ = some (.slice Ao88 t344.length co88) ∧ w'.cell? ⟨gb358, 0, none⟩ = some (.slice Ao96 t351.length co96) ∧ w'.cell? ⟨gb358, 1, none⟩ = some (.slice Ao98 t354.length co98)) (ds := []) #[false, false, false, false, false, false, false, false, false, false, false, false, false, false, false, false, false, false, false, false, false, false, false, false, false, false, false, false, false, false, false, false, false, false, false, false, false, false, false, false, false, false, false, false, false, false, false, false, false, false, false] (by kernel_rfl) rfl rfl ⟨(blk_cell BK331.out 0).trans rfl, (blk_cell BK331.out 1).trans rfl, (blk_cell BK320.out 0).trans rfl, (blk_cell BK320.out 1).trans rfl, (blk_cell BK320.out 2).trans rfl, (blk_cell BK320.out 3).trans rfl, (blk_cell BK320.out 4).trans rfl, (blk_cell BK320.out 5).trans rfl, (blk_cell BK320.out 6).trans rfl, (blk_cell BK348.out 0).trans rfl, (blk_cell BK348.out 1).trans rfl, (blk_cell BK358.out 0).trans rfl, (blk_cell BK358.out 1).trans rfl⟩ (fun hHeld => ?_); refine with_tabW athanorlaw04_TensorJoins.tab13 athanorlaw04_TensorJoins.bits13 (fun HT_ HW_ => ?_)
                      generalize w100.drew = w101 at HO_5 HO_332000 HO_332001 HO343 HO346 HO353 HO356 BK320 BK331 BK348 BK358 HB hHeld ⊢
                      refine pure_ (i := 0) (N := some 142) (JoinW.bA 51 1) rfl rfl (any_of HT_.out (by kernel_rfl)) (fun _ _ _ h => h) (Or.inl ⟨by rfl, by intro w'; go_simp; with_reducible rfl⟩) (by simp only [Act.put, List.setIfInBounds_toArray, List.set_cons_zero, List.set_cons_succ, i64_w, i32_w]; rfl) ?_
                      refine pure_ (i := 1) (N := some 143) (JoinW.bA 51 3) rfl rfl (any_of HT_.out (by kernel_rfl)) (fun _ _ _ h => h) (Or.inl ⟨by rfl, by intro w'; go_simp; with_reducible rfl⟩) (by simp only [Act.put, List.setIfInBounds_toArray, List.set_cons_zero, List.set_cons_succ, i64_w, i32_w]; rfl) ?_
                      refine pure_ (i := 2) (N := some 144) (JoinW.bA 51 7) rfl rfl (any_of HT_.out (by kernel_rfl)) (fun _ _ _ h => h) (Or.inl ⟨by rfl, by intro w'; go_simp; with_reducible rfl⟩) (by simp only [Act.put, List.setIfInBounds_toArray, List.set_cons_zero, List.set_cons_succ, i64_w, i32_w]; rfl) ?_
                      refine pure_ (i := 3) (N := some 145) (JoinW.bA 51 15) rfl rfl (any_of HT_.out (by kernel_rfl)) (fun _ _ _ h => h) (Or.inl ⟨by rfl, by intro w'; go_simp; with_reducible rfl⟩) (by simp only [Act.put, List.setIfInBounds_toArray, List.set_cons_zero, List.set_cons_succ, i64_w, i32_w]; rfl) ?_
                      refine pure_ (i := 5) (N := some 147) (JoinW.bA 51 47) rfl rfl (any_of HT_.out (by kernel_rfl)) (fun _ _ _ h => h) (Or.inl ⟨by rfl, by intro w'; go_simp; with_reducible rfl⟩) (by simp only [Act.put, List.setIfInBounds_toArray, List.set_cons_zero, List.set_cons_succ, i64_w, i32_w]; rfl) ?_
                      refine take_ (i := 4) (N := some 146) (JoinW.bA 51 63) rfl rfl (take_ofW HT_.out HW_.out (by kernel_rfl)) (fun _ _ _ h => h) (Or.inl ⟨by rfl, by rintro w' ⟨s0, s1, s2, s3, s4, s5, s6, s7, s8, s9, s10, s11, s12⟩; go_simp; with_reducible rfl⟩) hHeld (by simp only [Act.put, List.setIfInBounds_toArray, List.set_cons_zero, List.set_cons_succ, i64_w, i32_w]; rfl) ?_
                      refine one_ (i := 6) (N := some 148) (JoinW.bA 51 127) rfl rfl (one_of HT_.out (by kernel_rfl)) (by decide) (fun K hK => ?_)
                      refine goes_ Try.func18 (by kernel_rfl) rfl #[.slice Ao21 t324.length co21, .slice (some ad350) t335.length co92] (by rfl) rfl rfl (by (try simp only [List.map_toArray, List.map_cons, List.map_nil]); first | done | rfl | (simp only [List.length_drop, List.length_take]; rfl)) ?_
                      with_reducible refine (shape_Shape_Equal.calls kj44 _ _ t324 _ _ t335 true _ ?side1 ?side2 ?side3 ?side4 A68.out).mono ?_
                      (case side1 => repeat (first|exact (Kd.R_reads' HO_332000.out).2.2 | with_reducible first|apply cA|apply cN|apply cD))
                      (case side2 => exact (Kd.R_reads' HO_332000.out).2.1)
                      (case side3 => repeat (first|exact (Kd.R_reads' HO_5.out).2.2 | with_reducible first|apply cA|apply cN|apply cD))
                      (case side4 => exact (Kd.R_reads' HO_5.out).2.1)
                      rintro e w' ⟨rfl, ⟨nd, rfl⟩⟩
                      refine ⟨_, rfl, ?_⟩
                      refine hK.out _ _ ⟨(blk_cell BK331.out 0).trans rfl, (blk_cell BK331.out 1).trans rfl, (blk_cell BK320.out 0).trans rfl, (blk_cell BK320.out 1).trans rfl, (blk_cell BK320.out 2).trans rfl, (blk_cell BK320.out 3).trans rfl, (blk_cell BK320.out 4).trans rfl, (blk_cell BK320.out 5).trans rfl, (blk_cell BK320.out 6).trans rfl, (blk_cell BK348.out 0).trans rfl, (blk_cell BK348.out 1).trans rfl, (blk_cell BK358.out 0).trans rfl, (blk_cell BK358.out 1).trans rfl⟩ (fun hHeld => ?_)
                      clear hK K
                      refine norm_ (a' := ?_) ?_ ?_
                      rotate_left
                      ·show Act.put _ (some 148) _ = _
                       simp only [Act.put, List.setIfInBounds_toArray, List.set_cons_zero, List.set_cons_succ, i64_w, i32_w]
                       rfl
                      refine pure_ (i := 7) (N := some 149) (JoinW.bA 51 255) rfl rfl (any_of HT_.out (by kernel_rfl)) (fun _ _ _ h => h) (Or.inl ⟨by rfl, by intro w'; go_simp; with_reducible rfl⟩) (by simp only [Act.put, List.setIfInBounds_toArray, List.set_cons_zero, List.set_cons_succ, i64_w, i32_w]; rfl) ?_
                      refine pure_ (i := 8) (N := some 150) (JoinW.bA 51 511) rfl rfl (any_of HT_.out (by kernel_rfl)) (fun _ _ _ h => h) (Or.inl ⟨by rfl, by intro w'; go_simp; with_reducible rfl⟩) (by simp only [Act.put, List.setIfInBounds_toArray, List.set_cons_zero, List.set_cons_succ, i64_w, i32_w]; rfl) ?_
                      refine pure_ (i := 10) (N := some 152) (JoinW.bA 51 1535) rfl rfl (any_of HT_.out (by kernel_rfl)) (fun _ _ _ h => h) (Or.inl ⟨by rfl, by intro w'; go_simp; with_reducible rfl⟩) (by simp only [Act.put, List.setIfInBounds_toArray, List.set_cons_zero, List.set_cons_succ, i64_w, i32_w]; rfl) ?_
                      refine pure_ (i := 11) (N := some 153) (JoinW.bA 51 3583) rfl rfl (any_of HT_.out (by kernel_rfl)) (fun _ _ _ h => h) (Or.inl ⟨by rfl, by intro w'; go_simp; with_reducible rfl⟩) (by simp only [Act.put, List.setIfInBounds_toArray, List.set_cons_zero, List.set_cons_succ, i64_w, i32_w]; rfl) ?_
                      refine pure_ (i := 13) (N := some 155) (JoinW.bA 51 11775) rfl rfl (any_of HT_.out (by kernel_rfl)) (fun _ _ _ h => h) (Or.inl ⟨by rfl, by intro w'; go_simp; with_reducible rfl⟩) (by simp only [Act.put, List.setIfInBounds_toArray, List.set_cons_zero, List.set_cons_succ, i64_w, i32_w]; rfl) ?_
                      refine pure_ (i := 14) (N := some 156) (JoinW.bA 51 28159) rfl rfl (any_of HT_.out (by kernel_rfl)) (fun _ _ _ h => h) (Or.inl ⟨by rfl, by intro w'; go_simp; with_reducible rfl⟩) (by simp only [Act.put, List.setIfInBounds_toArray, List.set_cons_zero, List.set_cons_succ, i64_w, i32_w]; rfl) ?_
                      refine pure_ (i := 16) (N := some 158) (JoinW.bA 51 93695) rfl rfl (any_of HT_.out (by kernel_rfl)) (fun _ _ _ h => h) (Or.inl ⟨by rfl, by intro w'; go_simp; with_reducible rfl⟩) (by simp only [Act.put, List.setIfInBounds_toArray, List.set_cons_zero, List.set_cons_succ, i64_w, i32_w]; rfl) ?_
                      refine pure_ (i := 19) (N := some 161) (JoinW.bA 51 617983) rfl rfl (any_of HT_.out (by kernel_rfl)) (fun _ _ _ h => h) (Or.inl ⟨by rfl, by intro w'; go_simp; with_reducible rfl⟩) (by simp only [Act.put, List.setIfInBounds_toArray, List.set_cons_zero, List.set_cons_succ, i64_w, i32_w]; rfl) ?_
                      refine pure_ (i := 22) (N := some 164) (JoinW.bA 51 4812287) rfl rfl (any_of HT_.out (by kernel_rfl)) (fun _ _ _ h => h) (Or.inl ⟨by rfl, by intro w'; go_simp; with_reducible rfl⟩) (by simp only [Act.put, List.setIfInBounds_toArray, List.set_cons_zero, List.set_cons_succ, i64_w, i32_w]; rfl) ?_
                      refine take_ (i := 9) (N := some 151) (JoinW.bA 51 4812799) rfl rfl (take_ofW HT_.out HW_.out (by kernel_rfl)) (fun _ _ _ h => h) (Or.inl ⟨by rfl, by rintro w' ⟨s0, s1, s2, s3, s4, s5, s6, s7, s8, s9, s10, s11, s12⟩; go_simp; with_reducible rfl⟩) hHeld (by simp only [Act.put, List.setIfInBounds_toArray, List.set_cons_zero, List.set_cons_succ, i64_w, i32_w]; rfl) ?_
                      refine take_ (i := 12) (N := some 154) (JoinW.bA 51 4816895) rfl rfl (take_ofW HT_.out HW_.out (by kernel_rfl)) (fun _ _ _ h => h) (Or.inl ⟨by rfl, by rintro w' ⟨s0, s1, s2, s3, s4, s5, s6, s7, s8, s9, s10, s11, s12⟩; go_simp; with_reducible rfl⟩) hHeld (by simp only [Act.put, List.setIfInBounds_toArray, List.set_cons_zero, List.set_cons_succ, i64_w, i32_w]; rfl) ?_
                      refine take_ (i := 15) (N := some 157) (JoinW.bA 51 4849663) rfl rfl (take_ofW HT_.out HW_.out (by kernel_rfl)) (fun _ _ _ h => h) (Or.inl ⟨by rfl, by rintro w' ⟨s0, s1, s2, s3, s4, s5, s6, s7, s8, s9, s10, s11, s12⟩; go_simp; with_reducible rfl⟩) hHeld (by simp only [Act.put, List.setIfInBounds_toArray, List.set_cons_zero, List.set_cons_succ, i64_w, i32_w]; rfl) ?_
                      refine take_ (i := 17) (N := some 159) (JoinW.bA 51 4980735) rfl rfl (take_ofW HT_.out HW_.out (by kernel_rfl)) (fun _ _ _ h => h) (Or.inl ⟨by rfl, by rintro w' ⟨s0, s1, s2, s3, s4, s5, s6, s7, s8, s9, s10, s11, s12⟩; go_simp; with_reducible rfl⟩) hHeld (by simp only [Act.put, List.setIfInBounds_toArray, List.set_cons_zero, List.set_cons_succ, i64_w, i32_w]; rfl) ?_
                      refine take_ (i := 20) (N := some 162) (JoinW.bA 51 6029311) rfl rfl (take_ofW HT_.out HW_.out (by kernel_rfl)) (fun _ _ _ h => h) (Or.inl ⟨by rfl, by rintro w' ⟨s0, s1, s2, s3, s4, s5, s6, s7, s8, s9, s10, s11, s12⟩; go_simp; with_reducible rfl⟩) hHeld (by simp only [Act.put, List.setIfInBounds_toArray, List.set_cons_zero, List.set_cons_succ, i64_w, i32_w]; rfl) ?_
                      refine take_ (i := 23) (N := some 165) (JoinW.bA 51 14417919) rfl rfl (take_ofW HT_.out HW_.out (by kernel_rfl)) (fun _ _ _ h => h) (Or.inl ⟨by rfl, by rintro w' ⟨s0, s1, s2, s3, s4, s5, s6, s7, s8, s9, s10, s11, s12⟩; go_simp; with_reducible rfl⟩) hHeld (by simp only [Act.put, List.setIfInBounds_toArray, List.set_cons_zero, List.set_cons_succ, i64_w, i32_w]; rfl) ?_
                      refine one_ (i := 18) (N := some 160) (JoinW.bA 51 14680063) rfl rfl (one_of HT_.out (by kernel_rfl)) (by decide) (fun K hK => ?_)
                      refine goes_ Try.func32 (by kernel_rfl) rfl #[.agg #[.slice (some ad340) l0_0.length c0_0, .slice A0_1 l0_1.length c0_1]] (by rfl) rfl rfl (by (try simp only [List.map_toArray, List.map_cons, List.map_nil]); first | done | rfl | (simp only [List.length_drop, List.length_take]; rfl)) ?_
                      with_reducible refine (athanorlaw04_cells.calls kj44 _ _ l0_0 _ _ l0_1 t360 _ ?side1 ?side2 ?side3 ?side4 A70.out).mono ?_
                      (case side1 => repeat (first|exact (Kd.C_below HR0_0.out (by repeat (first | (with_reducible first|exact HB.out|apply bA|apply bN|apply bD|refine bS ?_ GE320.out|refine bS ?_ GE331.out|refine bS ?_ GE348.out|refine bS ?_ GE358.out)|exact HB.out))) | with_reducible first|apply cA|apply cN|apply cD))
                      (case side2 => exact HC0_0.out)
                      (case side3 => repeat (first|exact (Kd.C_below HR0_1.out (by repeat (first | (with_reducible first|exact HB.out|apply bA|apply bN|apply bD|refine bS ?_ GE320.out|refine bS ?_ GE331.out|refine bS ?_ GE348.out|refine bS ?_ GE358.out)|exact HB.out))) | with_reducible first|apply cA|apply cN|apply cD))
                      (case side4 => exact HC0_1.out)
                      rintro e w102 ⟨v361, rfl, ho0, hb⟩
                      refine ⟨_, rfl, ?_⟩
                      have n0_ := aM (Kd.R_below (by (with_reducible repeat (first|apply rA|apply rN|apply rD)); exact HO_5.out) hb)
                      have n1_ := aM (Kd.R_below (by (with_reducible repeat (first|apply rA|apply rN|apply rD)); exact HO_332000.out) hb)
                      have n2_ := aM (Kd.R_below (by (with_reducible repeat (first|apply rA|apply rN|apply rD)); exact HO_332001.out) hb)
                      have n3_ := aM (Kd.R_below (by (with_reducible repeat (first|apply rA|apply rN|apply rD)); exact HO343.out) hb)
                      have n4_ := aM (Kd.R_below (by (with_reducible repeat (first|apply rA|apply rN|apply rD)); exact HO346.out) hb)
                      have n5_ := aM (Kd.R_below (by (with_reducible repeat (first|apply rA|apply rN|apply rD)); exact HO353.out) hb)
                      have n6_ := aM (Kd.R_below (by (with_reducible repeat (first|apply rA|apply rN|apply rD)); exact HO356.out) hb)
                      have n7_ := aM (Kd.R_lower ho0 (below_size (by repeat (first | (with_reducible first|exact HB.out|apply bA|apply bN|apply bD|refine bS ?_ GE320.out|refine bS ?_ GE331.out|refine bS ?_ GE348.out|refine bS ?_ GE358.out)|exact HB.out))))
                      have n8_ := aM (blk_below (g := gb320) (o := .cells #[.slice (some ad340) l0_0.length c0_0, .slice A0_1 l0_1.length c0_1, .slice A0_2 l0_2.length c0_2, .slice A0_3 l0_3.length c0_3, .int .i64 a0_4, .int .i64 a0_5, .int .i64 a0_6] 47 (0, 0)) (by (with_reducible repeat (first|apply kN|apply kD|apply kA)); exact BK320.out) hb)
                      have n9_ := aM (blk_below (g := gb331) (o := .cells #[.slice Ao21 t324.length co21, .slice Ao24 t327.length co24] 26 (0, 0)) (by (with_reducible repeat (first|apply kN|apply kD|apply kA)); exact BK331.out) hb)
                      have n10_ := aM (blk_below (g := gb348) (o := .cells #[.slice Ao86 t341.length co86, .slice Ao88 t344.length co88] 26 (0, 0)) (by (with_reducible repeat (first|apply kN|apply kD|apply kA)); exact BK348.out) hb)
                      have n11_ := aM (blk_below (g := gb358) (o := .cells #[.slice Ao96 t351.length co96, .slice Ao98 t354.length co98] 26 (0, 0)) (by (with_reducible repeat (first|apply kN|apply kD|apply kA)); exact BK358.out) hb)
                      have n12_ := aM (below_step (by repeat (first | (with_reducible first|exact HB.out|apply bA|apply bN|apply bD|refine bS ?_ GE320.out|refine bS ?_ GE331.out|refine bS ?_ GE348.out|refine bS ?_ GE358.out)|exact HB.out)) hb)
                      clear HO_5
                      clear HO_332000
                      clear HO_332001
                      clear HO343
                      clear HO346
                      clear HO353
                      clear HO356
                      clear BK320
                      clear BK331
                      clear BK348
                      clear BK358
                      clear HB
                      have HO_5 := n0_
                      have HO_332000 := n1_
                      have HO_332001 := n2_
                      have HO343 := n3_
                      have HO346 := n4_
                      have HO353 := n5_
                      have HO356 := n6_
                      have HO362 := n7_
                      have BK320 := n8_
                      have BK331 := n9_
                      have BK348 := n10_
                      have BK358 := n11_
                      have HB := n12_
                      clear n0_ n1_ n2_ n3_ n4_ n5_ n6_ n7_ n8_ n9_ n10_ n11_ n12_
                      (try clear hb)
                      skip
                      (try clear hk)
                      skip
                      (try clear ho0)
                      refine hK.out _ _ ⟨(blk_cell BK331.out 0).trans rfl, (blk_cell BK331.out 1).trans rfl, (blk_cell BK320.out 0).trans rfl, (blk_cell BK320.out 1).trans rfl, (blk_cell BK320.out 2).trans rfl, (blk_cell BK320.out 3).trans rfl, (blk_cell BK320.out 4).trans rfl, (blk_cell BK320.out 5).trans rfl, (blk_cell BK320.out 6).trans rfl, (blk_cell BK348.out 0).trans rfl, (blk_cell BK348.out 1).trans rfl, (blk_cell BK358.out 0).trans rfl, (blk_cell BK358.out 1).trans rfl⟩ (fun hHeld => ?_)
                      clear hK K
                      refine norm_ (a' := ?_) ?_ ?_
                      rotate_left
                      ·show Act.put _ (some 160) _ = _
                       simp only [Act.put, List.setIfInBounds_toArray, List.set_cons_zero, List.set_cons_succ, i64_w, i32_w]
                       rfl
                      refine one_ (i := 21) (N := some 163) (JoinW.bA 51 16777215) rfl rfl (one_of HT_.out (by kernel_rfl)) (by decide) (fun K hK => ?_)
                      refine goes_ Try.func32 (by kernel_rfl) rfl #[.agg #[.slice A0_2 l0_2.length c0_2, .slice A0_3 l0_3.length c0_3]] (by rfl) rfl rfl (by (try simp only [List.map_toArray, List.map_cons, List.map_nil]); first | done | rfl | (simp only [List.length_drop, List.length_take]; rfl)) ?_
                      with_reducible refine (athanorlaw04_cells.calls kj44 _ _ l0_2 _ _ l0_3 t363 _ ?side1 ?side2 ?side3 ?side4 A71.out).mono ?_
                      (case side1 => repeat (first|exact (Kd.C_below HR0_2.out HB.out) | with_reducible first|apply cA|apply cN|apply cD))
                      (case side2 => exact HC0_2.out)
                      (case side3 => repeat (first|exact (Kd.C_below HR0_3.out HB.out) | with_reducible first|apply cA|apply cN|apply cD))
                      (case side4 => exact HC0_3.out)
                      rintro e w103 ⟨v364, rfl, ho0, hb⟩
                      refine ⟨_, rfl, ?_⟩
                      have n0_ := aM (Kd.R_below (by (with_reducible repeat (first|apply rA|apply rN|apply rD)); exact HO_5.out) hb)
                      have n1_ := aM (Kd.R_below (by (with_reducible repeat (first|apply rA|apply rN|apply rD)); exact HO_332000.out) hb)
                      have n2_ := aM (Kd.R_below (by (with_reducible repeat (first|apply rA|apply rN|apply rD)); exact HO_332001.out) hb)
                      have n3_ := aM (Kd.R_below (by (with_reducible repeat (first|apply rA|apply rN|apply rD)); exact HO343.out) hb)
                      have n4_ := aM (Kd.R_below (by (with_reducible repeat (first|apply rA|apply rN|apply rD)); exact HO346.out) hb)
                      have n5_ := aM (Kd.R_below (by (with_reducible repeat (first|apply rA|apply rN|apply rD)); exact HO353.out) hb)
                      have n6_ := aM (Kd.R_below (by (with_reducible repeat (first|apply rA|apply rN|apply rD)); exact HO356.out) hb)
                      have n7_ := aM (Kd.R_elder' (by (with_reducible repeat (first|apply rA|apply rN|apply rD)); exact HO362.out) (Kd.R_base ho0) hb)
                      have n8_ := aM (Kd.R_lower (Kd.R_new' ho0 (Kd.R_lt (by (with_reducible repeat (first|apply rA|apply rN|apply rD)); exact HO362.out))) (below_size (by repeat (first | (with_reducible first|exact HB.out|apply bA|apply bN|apply bD|refine bS ?_ GE320.out|refine bS ?_ GE331.out|refine bS ?_ GE348.out|refine bS ?_ GE358.out)|exact HB.out))))
                      have n9_ := aM (blk_below (g := gb320) (o := .cells #[.slice (some ad340) l0_0.length c0_0, .slice A0_1 l0_1.length c0_1, .slice A0_2 l0_2.length c0_2, .slice A0_3 l0_3.length c0_3, .int .i64 a0_4, .int .i64 a0_5, .int .i64 a0_6] 47 (0, 0)) (by (with_reducible repeat (first|apply kN|apply kD|apply kA)); exact BK320.out) hb)
                      have n10_ := aM (blk_below (g := gb331) (o := .cells #[.slice Ao21 t324.length co21, .slice Ao24 t327.length co24] 26 (0, 0)) (by (with_reducible repeat (first|apply kN|apply kD|apply kA)); exact BK331.out) hb)
                      have n11_ := aM (blk_below (g := gb348) (o := .cells #[.slice Ao86 t341.length co86, .slice Ao88 t344.length co88] 26 (0, 0)) (by (with_reducible repeat (first|apply kN|apply kD|apply kA)); exact BK348.out) hb)
                      have n12_ := aM (blk_below (g := gb358) (o := .cells #[.slice Ao96 t351.length co96, .slice Ao98 t354.length co98] 26 (0, 0)) (by (with_reducible repeat (first|apply kN|apply kD|apply kA)); exact BK358.out) hb)
                      have n13_ := aM (below_step (by repeat (first | (with_reducible first|exact HB.out|apply bA|apply bN|apply bD|refine bS ?_ GE320.out|refine bS ?_ GE331.out|refine bS ?_ GE348.out|refine bS ?_ GE358.out)|exact HB.out)) hb)
                      clear HO_5
                      clear HO_332000
                      clear HO_332001
                      clear HO343
                      clear HO346
                      clear HO353
                      clear HO356
                      clear HO362
                      clear BK320
                      clear BK331
                      clear BK348
                      clear BK358
                      clear HB
                      have HO_5 := n0_
                      have HO_332000 := n1_
                      have HO_332001 := n2_
                      have HO343 := n3_
                      have HO346 := n4_
                      have HO353 := n5_
                      have HO356 := n6_
                      have HO362 := n7_
                      have HO365 := n8_
                      have BK320 := n9_
                      have BK331 := n10_
                      have BK348 := n11_
                      have BK358 := n12_
                      have HB := n13_
                      clear n0_ n1_ n2_ n3_ n4_ n5_ n6_ n7_ n8_ n9_ n10_ n11_ n12_ n13_
                      (try clear hb)
                      skip
                      (try clear hk)
                      skip
                      (try clear ho0)
                      obtain ⟨Ao104, co104, eo104⟩ := Kd.R_slice HO362.out
                      (first | subst eo104 | (injection eo104 with f1_ f2_ f3_; have f4_ := f1_.symm; have f5_ := f3_.symm; clear f1_ f2_ f3_; subst f4_; subst f5_))
                      obtain ⟨Ao105, co105, eo105⟩ := Kd.R_slice HO365.out
                      (first | subst eo105 | (injection eo105 with f1_ f2_ f3_; have f4_ := f1_.symm; have f5_ := f3_.symm; clear f1_ f2_ f3_; subst f4_; subst f5_))
                      refine hK.out _ _ ⟨(blk_cell BK331.out 0).trans rfl, (blk_cell BK331.out 1).trans rfl, (blk_cell BK320.out 0).trans rfl, (blk_cell BK320.out 1).trans rfl, (blk_cell BK320.out 2).trans rfl, (blk_cell BK320.out 3).trans rfl, (blk_cell BK320.out 4).trans rfl, (blk_cell BK320.out 5).trans rfl, (blk_cell BK320.out 6).trans rfl, (blk_cell BK348.out 0).trans rfl, (blk_cell BK348.out 1).trans rfl, (blk_cell BK358.out 0).trans rfl, (blk_cell BK358.out 1).trans rfl⟩ (fun hHeld => ?_)
                      clear hK K
                      refine norm_ (a' := ?_) ?_ ?_
                      rotate_left
                      ·show Act.put _ (some 163) _ = _
                       simp only [Act.put, List.setIfInBounds_toArray, List.set_cons_zero, List.set_cons_succ, i64_w, i32_w]
                       rfl
                      refine one_ (i := 24) (N := some 166) (JoinW.bA 51 33554431) rfl rfl (one_of HT_.out (by kernel_rfl)) (by decide) (fun K hK => ?_)
                      refine goes_ Try.func35 (by kernel_rfl) rfl #[.slice (some ad340) l0_0.length c0_0, .slice A0_2 l0_2.length c0_2, .slice Ao104 t360.length co104, .slice Ao105 t363.length co105, .int .i64 a0_4] (by rfl) rfl rfl (by (try simp only [List.map_toArray, List.map_cons, List.map_nil]); first | done | rfl | (simp only [List.length_drop, List.length_take]; rfl)) ?_
                      with_reducible refine (athanorref04_Join.calls kj44 _ _ l0_0 _ _ l0_2 _ _ t360 _ _ t363 a0_4 t366 _ ?side1 ?side2 ?side3 ?side4 ?side5 ?side6 ?side7 ?side8 A72.out).mono ?_
                      (case side1 => repeat (first|exact (Kd.C_below HR0_0.out HB.out) | with_reducible first|apply cA|apply cN|apply cD))
                      (case side2 => exact HC0_0.out)
                      (case side3 => repeat (first|exact (Kd.C_below HR0_2.out HB.out) | with_reducible first|apply cA|apply cN|apply cD))
                      (case side4 => exact HC0_2.out)
                      (case side5 => repeat (first|exact (Kd.R_reads' HO362.out).2.2 | with_reducible first|apply cA|apply cN|apply cD))
                      (case side6 => exact (Kd.R_reads' HO362.out).2.1)
                      (case side7 => repeat (first|exact (Kd.R_reads' HO365.out).2.2 | with_reducible first|apply cA|apply cN|apply cD))
                      (case side8 => exact (Kd.R_reads' HO365.out).2.1)
                      rintro e w106 ⟨v367, rfl, ho0, hb⟩
                      refine ⟨_, rfl, ?_⟩
                      have n0_ := aM (Kd.R_below (by (with_reducible repeat (first|apply rA|apply rN|apply rD)); exact HO_5.out) hb)
                      have n1_ := aM (Kd.R_below (by (with_reducible repeat (first|apply rA|apply rN|apply rD)); exact HO_332000.out) hb)
                      have n2_ := aM (Kd.R_below (by (with_reducible repeat (first|apply rA|apply rN|apply rD)); exact HO_332001.out) hb)
                      have n3_ := aM (Kd.R_below (by (with_reducible repeat (first|apply rA|apply rN|apply rD)); exact HO343.out) hb)
                      have n4_ := aM (Kd.R_below (by (with_reducible repeat (first|apply rA|apply rN|apply rD)); exact HO346.out) hb)
                      have n5_ := aM (Kd.R_below (by (with_reducible repeat (first|apply rA|apply rN|apply rD)); exact HO353.out) hb)
                      have n6_ := aM (Kd.R_below (by (with_reducible repeat (first|apply rA|apply rN|apply rD)); exact HO356.out) hb)
                      have n7_ := aM (Kd.R_elder' (by (with_reducible repeat (first|apply rA|apply rN|apply rD)); exact HO362.out) (Kd.R_base ho0) hb)
                      have n8_ := aM (Kd.R_elder' (by (with_reducible repeat (first|apply rA|apply rN|apply rD)); exact HO365.out) (Kd.R_base ho0) hb)
                      have n9_ := aM (Kd.R_lower (Kd.R_new' (Kd.R_new' ho0 (Kd.R_lt (by (with_reducible repeat (first|apply rA|apply rN|apply rD)); exact HO362.out))) (Kd.R_lt (by (with_reducible repeat (first|apply rA|apply rN|apply rD)); exact HO365.out))) (below_size (by repeat (first | (with_reducible first|exact HB.out|apply bA|apply bN|apply bD|refine bS ?_ GE320.out|refine bS ?_ GE331.out|refine bS ?_ GE348.out|refine bS ?_ GE358.out)|exact HB.out))))
                      have n10_ := aM (blk_below (g := gb320) (o := .cells #[.slice (some ad340) l0_0.length c0_0, .slice A0_1 l0_1.length c0_1, .slice A0_2 l0_2.length c0_2, .slice A0_3 l0_3.length c0_3, .int .i64 a0_4, .int .i64 a0_5, .int .i64 a0_6] 47 (0, 0)) (by (with_reducible repeat (first|apply kN|apply kD|apply kA)); exact BK320.out) hb)
                      have n11_ := aM (blk_below (g := gb331) (o := .cells #[.slice Ao21 t324.length co21, .slice Ao24 t327.length co24] 26 (0, 0)) (by (with_reducible repeat (first|apply kN|apply kD|apply kA)); exact BK331.out) hb)
                      have n12_ := aM (blk_below (g := gb348) (o := .cells #[.slice Ao86 t341.length co86, .slice Ao88 t344.length co88] 26 (0, 0)) (by (with_reducible repeat (first|apply kN|apply kD|apply kA)); exact BK348.out) hb)
                      have n13_ := aM (blk_below (g := gb358) (o := .cells #[.slice Ao96 t351.length co96, .slice Ao98 t354.length co98] 26 (0, 0)) (by (with_reducible repeat (first|apply kN|apply kD|apply kA)); exact BK358.out) hb)
                      have n14_ := aM (below_step (by repeat (first | (with_reducible first|exact HB.out|apply bA|apply bN|apply bD|refine bS ?_ GE320.out|refine bS ?_ GE331.out|refine bS ?_ GE348.out|refine bS ?_ GE358.out)|exact HB.out)) hb)
                      clear HO_5
                      clear HO_332000
                      clear HO_332001
                      clear HO343
                      clear HO346
                      clear HO353
                      clear HO356
                      clear HO362
                      clear HO365
                      clear BK320
                      clear BK331
                      clear BK348
                      clear BK358
                      clear HB
                      have HO_5 := n0_
                      have HO_332000 := n1_
                      have HO_332001 := n2_
                      have HO343 := n3_
                      have HO346 := n4_
                      have HO353 := n5_
                      have HO356 := n6_
                      have HO362 := n7_
                      have HO365 := n8_
                      have HO368 := n9_
                      have BK320 := n10_
                      have BK331 := n11_
                      have BK348 := n12_
                      have BK358 := n13_
                      have HB := n14_
                      clear n0_ n1_ n2_ n3_ n4_ n5_ n6_ n7_ n8_ n9_ n10_ n11_ n12_ n13_ n14_
                      (try clear hb)
                      skip
                      (try clear hk)
                      skip
                      (try clear ho0)
                      obtain ⟨Ao107, co107, eo107⟩ := Kd.R_slice HO368.out
                      (first | subst eo107 | (injection eo107 with f1_ f2_ f3_; have f4_ := f1_.symm; have f5_ := f3_.symm; clear f1_ f2_ f3_; subst f4_; subst f5_))
                      refine hK.out _ _ ⟨(blk_cell BK331.out 0).trans rfl, (blk_cell BK331.out 1).trans rfl, (blk_cell BK320.out 0).trans rfl, (blk_cell BK320.out 1).trans rfl, (blk_cell BK320.out 2).trans rfl, (blk_cell BK320.out 3).trans rfl, (blk_cell BK320.out 4).trans rfl, (blk_cell BK320.out 5).trans rfl, (blk_cell BK320.out 6).trans rfl, (blk_cell BK348.out 0).trans rfl, (blk_cell BK348.out 1).trans rfl, (blk_cell BK358.out 0).trans rfl, (blk_cell BK358.out 1).trans rfl⟩ (fun hHeld => ?_)
                      clear hK K
                      refine norm_ (a' := ?_) ?_ ?_
                      rotate_left
                      ·show Act.put _ (some 166) _ = _
                       simp only [Act.put, List.setIfInBounds_toArray, List.set_cons_zero, List.set_cons_succ, i64_w, i32_w]
                       rfl
                      refine one_ (i := 25) (N := some 167) (JoinW.bA 51 67108863) rfl rfl (one_of HT_.out (by kernel_rfl)) (by decide) (fun K hK => ?_)
                      refine goes_ Try.func30 (by kernel_rfl) rfl #[.agg #[.slice Ao21 t324.length co21, .slice Ao24 t327.length co24], .slice Ao107 t366.length co107] (by rfl) rfl rfl (by (try simp only [List.map_toArray, List.map_cons, List.map_nil]); first | done | rfl | (simp only [List.length_drop, List.length_take]; rfl)) ?_
                      with_reducible refine (athanorlaw04_same.calls kj44 _ _ t324 _ _ t327 _ _ t366 true _ ?side1 ?side2 ?side3 ?side4 ?side5 ?side6 A73.out).mono ?_
                      (case side1 => repeat (first|exact (Kd.R_reads' HO_332000.out).2.2 | with_reducible first|apply cA|apply cN|apply cD))
                      (case side2 => exact (Kd.R_reads' HO_332000.out).2.1)
                      (case side3 => repeat (first|exact (Kd.R_reads' HO_332001.out).2.2 | with_reducible first|apply cA|apply cN|apply cD))
                      (case side4 => exact (Kd.R_reads' HO_332001.out).2.1)
                      (case side5 => repeat (first|exact (Kd.R_reads' HO368.out).2.2 | with_reducible first|apply cA|apply cN|apply cD))
                      (case side6 => exact (Kd.R_reads' HO368.out).2.1)
                      rintro e w108 ⟨rfl, hb⟩
                      refine ⟨_, rfl, ?_⟩
                      have n0_ := aM (Kd.R_below (by (with_reducible repeat (first|apply rA|apply rN|apply rD)); exact HO_5.out) hb)
                      have n1_ := aM (Kd.R_below (by (with_reducible repeat (first|apply rA|apply rN|apply rD)); exact HO_332000.out) hb)
                      have n2_ := aM (Kd.R_below (by (with_reducible repeat (first|apply rA|apply rN|apply rD)); exact HO_332001.out) hb)
                      have n3_ := aM (Kd.R_below (by (with_reducible repeat (first|apply rA|apply rN|apply rD)); exact HO343.out) hb)
                      have n4_ := aM (Kd.R_below (by (with_reducible repeat (first|apply rA|apply rN|apply rD)); exact HO346.out) hb)
                      have n5_ := aM (Kd.R_below (by (with_reducible repeat (first|apply rA|apply rN|apply rD)); exact HO353.out) hb)
                      have n6_ := aM (Kd.R_below (by (with_reducible repeat (first|apply rA|apply rN|apply rD)); exact HO356.out) hb)
                      have n7_ := aM (Kd.R_below (by (with_reducible repeat (first|apply rA|apply rN|apply rD)); exact HO362.out) hb)
                      have n8_ := aM (Kd.R_below (by (with_reducible repeat (first|apply rA|apply rN|apply rD)); exact HO365.out) hb)
                      have n9_ := aM (Kd.R_below (by (with_reducible repeat (first|apply rA|apply rN|apply rD)); exact HO368.out) hb)
                      have n10_ := aM (blk_below (g := gb320) (o := .cells #[.slice (some ad340) l0_0.length c0_0, .slice A0_1 l0_1.length c0_1, .slice A0_2 l0_2.length c0_2, .slice A0_3 l0_3.length c0_3, .int .i64 a0_4, .int .i64 a0_5, .int .i64 a0_6] 47 (0, 0)) (by (with_reducible repeat (first|apply kN|apply kD|apply kA)); exact BK320.out) hb)
                      have n11_ := aM (blk_below (g := gb331) (o := .cells #[.slice Ao21 t324.length co21, .slice Ao24 t327.length co24] 26 (0, 0)) (by (with_reducible repeat (first|apply kN|apply kD|apply kA)); exact BK331.out) hb)
                      have n12_ := aM (blk_below (g := gb348) (o := .cells #[.slice Ao86 t341.length co86, .slice Ao88 t344.length co88] 26 (0, 0)) (by (with_reducible repeat (first|apply kN|apply kD|apply kA)); exact BK348.out) hb)
                      have n13_ := aM (blk_below (g := gb358) (o := .cells #[.slice Ao96 t351.length co96, .slice Ao98 t354.length co98] 26 (0, 0)) (by (with_reducible repeat (first|apply kN|apply kD|apply kA)); exact BK358.out) hb)
                      have n14_ := aM (below_step (by repeat (first | (with_reducible first|exact HB.out|apply bA|apply bN|apply bD|refine bS ?_ GE320.out|refine bS ?_ GE331.out|refine bS ?_ GE348.out|refine bS ?_ GE358.out)|exact HB.out)) hb)
                      clear HO_5
                      clear HO_332000
                      clear HO_332001
                      clear HO343
                      clear HO346
                      clear HO353
                      clear HO356
                      clear HO362
                      clear HO365
                      clear HO368
                      clear BK320
                      clear BK331
                      clear BK348
                      clear BK358
                      clear HB
                      have HO_5 := n0_
                      have HO_332000 := n1_
                      have HO_332001 := n2_
                      have HO343 := n3_
                      have HO346 := n4_
                      have HO353 := n5_
                      have HO356 := n6_
                      have HO362 := n7_
                      have HO365 := n8_
                      have HO368 := n9_
                      have BK320 := n10_
                      have BK331 := n11_
                      have BK348 := n12_
                      have BK358 := n13_
                      have HB := n14_
                      clear n0_ n1_ n2_ n3_ n4_ n5_ n6_ n7_ n8_ n9_ n10_ n11_ n12_ n13_ n14_
                      (try clear hb)
                      skip
                      (try clear hk)
                      skip
                      refine hK.out _ _ ⟨(blk_cell BK331.out 0).trans rfl, (blk_cell BK331.out 1).trans rfl, (blk_cell BK320.out 0).trans rfl, (blk_cell BK320.out 1).trans rfl, (blk_cell BK320.out 2).trans rfl, (blk_cell BK320.out 3).trans rfl, (blk_cell BK320.out 4).trans rfl, (blk_cell BK320.out 5).trans rfl, (blk_cell BK320.out 6).trans rfl, (blk_cell BK348.out 0).trans rfl, (blk_cell BK348.out 1).trans rfl, (blk_cell BK358.out 0).trans rfl, (blk_cell BK358.out 1).trans rfl⟩ (fun hHeld => ?_)
                      clear hK K
                      refine norm_ (a' := ?_) ?_ ?_
                      rotate_left
                      ·show Act.put _ (some 167) _ = _
                       simp only [Act.put, List.setIfInBounds_toArray, List.set_cons_zero, List.set_cons_succ, i64_w, i32_w]
                       rfl
                      refine pure_ (i := 26) (N := some 168) (JoinW.bA 51 134217727) rfl rfl (any_of HT_.out (by kernel_rfl)) (fun _ _ _ h => h) (Or.inl ⟨by rfl, by intro w'; go_simp; with_reducible rfl⟩) (by simp only [Act.put, List.setIfInBounds_toArray, List.set_cons_zero, List.set_cons_succ, i64_w, i32_w]; rfl) ?_
                      refine pure_ (i := 27) (N := some 169) (JoinW.bA 51 268435455) rfl rfl (any_of HT_.out (by kernel_rfl)) (fun _ _ _ h => h) (Or.inl ⟨by rfl, by intro w'; go_simp; with_reducible rfl⟩) (by simp only [Act.put, List.setIfInBounds_toArray, List.set_cons_zero, List.set_cons_succ, i64_w, i32_w]; rfl) ?_
                      refine pure_ (i := 28) (N := some 170) (JoinW.bA 51 536870911) rfl rfl (any_of HT_.out (by kernel_rfl)) (fun _ _ _ h => h) (Or.inl ⟨by rfl, by intro w'; go_simp; with_reducible rfl⟩) (by simp only [Act.put, List.setIfInBounds_toArray, List.set_cons_zero, List.set_cons_succ, i64_w, i32_w]; rfl) ?_
                      refine pure_ (i := 29) (N := some 171) (JoinW.bA 51 1073741823) rfl rfl (any_of HT_.out (by kernel_rfl)) (fun _ _ _ h => h) (Or.inl ⟨by rfl, by intro w'; go_simp; with_reducible rfl⟩) (by simp only [Act.put, List.setIfInBounds_toArray, List.set_cons_zero, List.set_cons_succ, i64_w, i32_w]; rfl) ?_
                      refine pure_ (i := 30) (N := some 172) (JoinW.bA 51 2147483647) rfl rfl (any_of HT_.out (by kernel_rfl)) (fun _ _ _ h => h) (Or.inl ⟨by rfl, by intro w'; go_simp; with_reducible rfl⟩) (by simp only [Act.put, List.setIfInBounds_toArray, List.set_cons_zero, List.set_cons_succ, i64_w, i32_w]; rfl) ?_
                      refine pure_ (i := 31) (N := some 173) (JoinW.bA 51 4294967295) rfl rfl (any_of HT_.out (by kernel_rfl)) (fun _ _ _ h => h) (Or.inl ⟨by rfl, by intro w'; go_simp; with_reducible rfl⟩) (by simp only [Act.put, List.setIfInBounds_toArray, List.set_cons_zero, List.set_cons_succ, i64_w, i32_w]; rfl) ?_
                      refine pure_ (i := 32) (N := some 174) (JoinW.bA 51 8589934591) rfl rfl (any_of HT_.out (by kernel_rfl)) (fun _ _ _ h => h) (Or.inl ⟨by rfl, by intro w'; go_simp; with_reducible rfl⟩) (by simp only [Act.put, List.setIfInBounds_toArray, List.set_cons_zero, List.set_cons_succ, i64_w, i32_w]; rfl) ?_
                      refine pure_ (i := 33) (N := some 175) (JoinW.bA 51 17179869183) rfl rfl (any_of HT_.out (by kernel_rfl)) (fun _ _ _ h => h) (Or.inl ⟨by rfl, by intro w'; go_simp; with_reducible rfl⟩) (by simp only [Act.put, List.setIfInBounds_toArray, List.set_cons_zero, List.set_cons_succ, i64_w, i32_w]; rfl) ?_
                      refine pure_ (i := 34) (N := some 176) (JoinW.bA 51 34359738367) rfl rfl (any_of HT_.out (by kernel_rfl)) (fun _ _ _ h => h) (Or.inl ⟨by rfl, by intro w'; go_simp; with_reducible rfl⟩) (by simp only [Act.put, List.setIfInBounds_toArray, List.set_cons_zero, List.set_cons_succ, i64_w, i32_w]; rfl) ?_
                      refine pure_ (i := 35) (N := some 177) (JoinW.bA 51 68719476735) rfl rfl (any_of HT_.out (by kernel_rfl)) (fun _ _ _ h => h) (Or.inl ⟨by rfl, by intro w'; go_simp; with_reducible rfl⟩) (by simp only [Act.put, List.setIfInBounds_toArray, List.set_cons_zero, List.set_cons_succ, i64_w, i32_w]; rfl) ?_
                      refine pure_ (i := 37) (N := some 179) (JoinW.bA 51 206158430207) rfl rfl (any_of HT_.out (by kernel_rfl)) (fun _ _ _ h => h) (Or.inl ⟨by rfl, by intro w'; go_simp; with_reducible rfl⟩) (by simp only [Act.put, List.setIfInBounds_toArray, List.set_cons_zero, List.set_cons_succ, i64_w, i32_w]; rfl) ?_
                      refine take_ (i := 36) (N := some 178) (JoinW.bA 51 274877906943) rfl rfl (take_ofW HT_.out HW_.out (by kernel_rfl)) (fun _ _ _ h => h) (Or.inl ⟨by rfl, by rintro w' ⟨s0, s1, s2, s3, s4, s5, s6, s7, s8, s9, s10, s11, s12⟩; go_simp; with_reducible rfl⟩) hHeld (by simp only [Act.put, List.setIfInBounds_toArray, List.set_cons_zero, List.set_cons_succ, i64_w, i32_w]; rfl) ?_
                      refine take_ (i := 38) (N := some 180) (JoinW.bA 51 549755813887) rfl rfl (take_ofW HT_.out HW_.out (by kernel_rfl)) (fun _ _ _ h => h) (Or.inl ⟨by rfl, by rintro w' ⟨s0, s1, s2, s3, s4, s5, s6, s7, s8, s9, s10, s11, s12⟩; go_simp; with_reducible rfl⟩) hHeld (by simp only [Act.put, List.setIfInBounds_toArray, List.set_cons_zero, List.set_cons_succ, i64_w, i32_w]; rfl) ?_
                      refine one_ (i := 39) (N := some 181) (JoinW.bA 51 1099511627775) rfl rfl (one_of HT_.out (by kernel_rfl)) (by decide) (fun K hK => ?_)
                      refine goes_ Try.func15 (by kernel_rfl) rfl #[.agg #[.slice Ao86 t341.length co86, .slice Ao88 t344.length co88], .agg #[.slice (some ad340) l0_0.length c0_0, .slice A0_1 l0_1.length c0_1]] (by rfl) rfl rfl (by (try simp only [List.map_toArray, List.map_cons, List.map_nil]); first | done | rfl | (simp only [List.length_drop, List.length_take]; rfl)) ?_
                      with_reducible refine (tensor_Equal_fix_F.calls kj44 _ _ t341 _ _ t344 _ _ l0_0 _ _ l0_1 true _ ?side1 ?side2 ?side3 ?side4 ?side5 ?side6 ?side7 ?side8 A77.out).mono ?_
                      (case side1 => repeat (first|exact (Kd.R_reads' HO343.out).2.2 | with_reducible first|apply cA|apply cN|apply cD))
                      (case side2 => exact (Kd.R_reads' HO343.out).2.1)
                      (case side3 => repeat (first|exact (Kd.R_reads' HO346.out).2.2 | with_reducible first|apply cA|apply cN|apply cD))
                      (case side4 => exact (Kd.R_reads' HO346.out).2.1)
                      (case side5 => repeat (first|exact (Kd.C_below HR0_0.out HB.out) | with_reducible first|apply cA|apply cN|apply cD))
                      (case side6 => exact HC0_0.out)
                      (case side7 => repeat (first|exact (Kd.C_below HR0_1.out HB.out) | with_reducible first|apply cA|apply cN|apply cD))
                      (case side8 => exact HC0_1.out)
                      rintro e w109 ⟨rfl, hb⟩
                      refine ⟨_, rfl, ?_⟩
                      have n0_ := aM (Kd.R_below (by (with_reducible repeat (first|apply rA|apply rN|apply rD)); exact HO_5.out) hb)
                      have n1_ := aM (Kd.R_below (by (with_reducible repeat (first|apply rA|apply rN|apply rD)); exact HO_332000.out) hb)
                      have n2_ := aM (Kd.R_below (by (with_reducible repeat (first|apply rA|apply rN|apply rD)); exact HO_332001.out) hb)
                      have n3_ := aM (Kd.R_below (by (with_reducible repeat (first|apply rA|apply rN|apply rD)); exact HO343.out) hb)
                      have n4_ := aM (Kd.R_below (by (with_reducible repeat (first|apply rA|apply rN|apply rD)); exact HO346.out) hb)
                      have n5_ := aM (Kd.R_below (by (with_reducible repeat (first|apply rA|apply rN|apply rD)); exact HO353.out) hb)
                      have n6_ := aM (Kd.R_below (by (with_reducible repeat (first|apply rA|apply rN|apply rD)); exact HO356.out) hb)
                      have n7_ := aM (Kd.R_below (by (with_reducible repeat (first|apply rA|apply rN|apply rD)); exact HO362.out) hb)
                      have n8_ := aM (Kd.R_below (by (with_reducible repeat (first|apply rA|apply rN|apply rD)); exact HO365.out) hb)
                      have n9_ := aM (Kd.R_below (by (with_reducible repeat (first|apply rA|apply rN|apply rD)); exact HO368.out) hb)
                      have n10_ := aM (blk_below (g := gb320) (o := .cells #[.slice (some ad340) l0_0.length c0_0, .slice A0_1 l0_1.length c0_1, .slice A0_2 l0_2.length c0_2, .slice A0_3 l0_3.length c0_3, .int .i64 a0_4, .int .i64 a0_5, .int .i64 a0_6] 47 (0, 0)) (by (with_reducible repeat (first|apply kN|apply kD|apply kA)); exact BK320.out) hb)
                      have n11_ := aM (blk_below (g := gb331) (o := .cells #[.slice Ao21 t324.length co21, .slice Ao24 t327.length co24] 26 (0, 0)) (by (with_reducible repeat (first|apply kN|apply kD|apply kA)); exact BK331.out) hb)
                      have n12_ := aM (blk_below (g := gb348) (o := .cells #[.slice Ao86 t341.length co86, .slice Ao88 t344.length co88] 26 (0, 0)) (by (with_reducible repeat (first|apply kN|apply kD|apply kA)); exact BK348.out) hb)
                      have n13_ := aM (blk_below (g := gb358) (o := .cells #[.slice Ao96 t351.length co96, .slice Ao98 t354.length co98] 26 (0, 0)) (by (with_reducible repeat (first|apply kN|apply kD|apply kA)); exact BK358.out) hb)
                      have n14_ := aM (below_step (by repeat (first | (with_reducible first|exact HB.out|apply bA|apply bN|apply bD|refine bS ?_ GE320.out|refine bS ?_ GE331.out|refine bS ?_ GE348.out|refine bS ?_ GE358.out)|exact HB.out)) hb)
                      clear HO_5
                      clear HO_332000
                      clear HO_332001
                      clear HO343
                      clear HO346
                      clear HO353
                      clear HO356
                      clear HO362
                      clear HO365
                      clear HO368
                      clear BK320
                      clear BK331
                      clear BK348
                      clear BK358
                      clear HB
                      have HO_5 := n0_
                      have HO_332000 := n1_
                      have HO_332001 := n2_
                      have HO343 := n3_
                      have HO346 := n4_
                      have HO353 := n5_
                      have HO356 := n6_
                      have HO362 := n7_
                      have HO365 := n8_
                      have HO368 := n9_
                      have BK320 := n10_
                      have BK331 := n11_
                      have BK348 := n12_
                      have BK358 := n13_
                      have HB := n14_
                      clear n0_ n1_ n2_ n3_ n4_ n5_ n6_ n7_ n8_ n9_ n10_ n11_ n12_ n13_ n14_
                      (try clear hb)
                      skip
                      (try clear hk)
                      skip
                      refine hK.out _ _ ⟨(blk_cell BK331.out 0).trans rfl, (blk_cell BK331.out 1).trans rfl, (blk_cell BK320.out 0).trans rfl, (blk_cell BK320.out 1).trans rfl, (blk_cell BK320.out 2).trans rfl, (blk_cell BK320.out 3).trans rfl, (blk_cell BK320.out 4).trans rfl, (blk_cell BK320.out 5).trans rfl, (blk_cell BK320.out 6).trans rfl, (blk_cell BK348.out 0).trans rfl, (blk_cell BK348.out 1).trans rfl, (blk_cell BK358.out 0).trans rfl, (blk_cell BK358.out 1).trans rfl⟩ (fun hHeld => ?_)
                      clear hK K
                      refine norm_ (a' := ?_) ?_ ?_
                      rotate_left
                      ·show Act.put _ (some 181) _ = _
                       simp only [Act.put, List.setIfInBounds_toArray, List.set_cons_zero, List.set_cons_succ, i64_w, i32_w]
                       rfl
                      refine pure_ (i := 40) (N := some 182) (JoinW.bA 51 2199023255551) rfl rfl (any_of HT_.out (by kernel_rfl)) (fun _ _ _ h => h) (Or.inl ⟨by rfl, by intro w'; go_simp; with_reducible rfl⟩) (by simp only [Act.put, List.setIfInBounds_toArray, List.set_cons_zero, List.set_cons_succ, i64_w, i32_w]; rfl) ?_
                      refine pure_ (i := 41) (N := some 183) (JoinW.bA 51 4398046511103) rfl rfl (any_of HT_.out (by kernel_rfl)) (fun _ _ _ h => h) (Or.inl ⟨by rfl, by intro w'; go_simp; with_reducible rfl⟩) (by simp only [Act.put, List.setIfInBounds_toArray, List.set_cons_zero, List.set_cons_succ, i64_w, i32_w]; rfl) ?_
                      refine pure_ (i := 43) (N := some 185) (JoinW.bA 51 13194139533311) rfl rfl (any_of HT_.out (by kernel_rfl)) (fun _ _ _ h => h) (Or.inl ⟨by rfl, by intro w'; go_simp; with_reducible rfl⟩) (by simp only [Act.put, List.setIfInBounds_toArray, List.set_cons_zero, List.set_cons_succ, i64_w, i32_w]; rfl) ?_
                      refine take_ (i := 42) (N := some 184) (JoinW.bA 51 17592186044415) rfl rfl (take_ofW HT_.out HW_.out (by kernel_rfl)) (fun _ _ _ h => h) (Or.inl ⟨by rfl, by rintro w' ⟨s0, s1, s2, s3, s4, s5, s6, s7, s8, s9, s10, s11, s12⟩; go_simp; with_reducible rfl⟩) hHeld (by simp only [Act.put, List.setIfInBounds_toArray, List.set_cons_zero, List.set_cons_succ, i64_w, i32_w]; rfl) ?_
                      refine take_ (i := 44) (N := some 186) (JoinW.bA 51 35184372088831) rfl rfl (take_ofW HT_.out HW_.out (by kernel_rfl)) (fun _ _ _ h => h) (Or.inl ⟨by rfl, by rintro w' ⟨s0, s1, s2, s3, s4, s5, s6, s7, s8, s9, s10, s11, s12⟩; go_simp; with_reducible rfl⟩) hHeld (by simp only [Act.put, List.setIfInBounds_toArray, List.set_cons_zero, List.set_cons_succ, i64_w, i32_w]; rfl) ?_
                      refine one_ (i := 45) (N := some 187) (JoinW.bA 51 70368744177663) rfl rfl (one_of HT_.out (by kernel_rfl)) (by decide) (fun K hK => ?_)
                      refine goes_ Try.func15 (by kernel_rfl) rfl #[.agg #[.slice Ao96 t351.length co96, .slice Ao98 t354.length co98], .agg #[.slice A0_2 l0_2.length c0_2, .slice A0_3 l0_3.length c0_3]] (by rfl) rfl rfl (by (try simp only [List.map_toArray, List.map_cons, List.map_nil]); first | done | rfl | (simp only [List.length_drop, List.length_take]; rfl)) ?_
                      with_reducible refine (tensor_Equal_fix_F.calls kj44 _ _ t351 _ _ t354 _ _ l0_2 _ _ l0_3 true _ ?side1 ?side2 ?side3 ?side4 ?side5 ?side6 ?side7 ?side8 A79.out).mono ?_
                      (case side1 => repeat (first|exact (Kd.R_reads' HO353.out).2.2 | with_reducible first|apply cA|apply cN|apply cD))
                      (case side2 => exact (Kd.R_reads' HO353.out).2.1)
                      (case side3 => repeat (first|exact (Kd.R_reads' HO356.out).2.2 | with_reducible first|apply cA|apply cN|apply cD))
                      (case side4 => exact (Kd.R_reads' HO356.out).2.1)
                      (case side5 => repeat (first|exact (Kd.C_below HR0_2.out HB.out) | with_reducible first|apply cA|apply cN|apply cD))
                      (case side6 => exact HC0_2.out)
                      (case side7 => repeat (first|exact (Kd.C_below HR0_3.out HB.out) | with_reducible first|apply cA|apply cN|apply cD))
                      (case side8 => exact HC0_3.out)
                      rintro e w110 ⟨rfl, hb⟩
                      refine ⟨_, rfl, ?_⟩
                      have n0_ := aM (Kd.R_below (by (with_reducible repeat (first|apply rA|apply rN|apply rD)); exact HO_5.out) hb)
                      have n1_ := aM (Kd.R_below (by (with_reducible repeat (first|apply rA|apply rN|apply rD)); exact HO_332000.out) hb)
                      have n2_ := aM (Kd.R_below (by (with_reducible repeat (first|apply rA|apply rN|apply rD)); exact HO_332001.out) hb)
                      have n3_ := aM (Kd.R_below (by (with_reducible repeat (first|apply rA|apply rN|apply rD)); exact HO343.out) hb)
                      have n4_ := aM (Kd.R_below (by (with_reducible repeat (first|apply rA|apply rN|apply rD)); exact HO346.out) hb)
                      have n5_ := aM (Kd.R_below (by (with_reducible repeat (first|apply rA|apply rN|apply rD)); exact HO353.out) hb)
                      have n6_ := aM (Kd.R_below (by (with_reducible repeat (first|apply rA|apply rN|apply rD)); exact HO356.out) hb)
                      have n7_ := aM (Kd.R_below (by (with_reducible repeat (first|apply rA|apply rN|apply rD)); exact HO362.out) hb)
                      have n8_ := aM (Kd.R_below (by (with_reducible repeat (first|apply rA|apply rN|apply rD)); exact HO365.out) hb)
                      have n9_ := aM (Kd.R_below (by (with_reducible repeat (first|apply rA|apply rN|apply rD)); exact HO368.out) hb)
                      have n10_ := aM (blk_below (g := gb320) (o := .cells #[.slice (some ad340) l0_0.length c0_0, .slice A0_1 l0_1.length c0_1, .slice A0_2 l0_2.length c0_2, .slice A0_3 l0_3.length c0_3, .int .i64 a0_4, .int .i64 a0_5, .int .i64 a0_6] 47 (0, 0)) (by (with_reducible repeat (first|apply kN|apply kD|apply kA)); exact BK320.out) hb)
                      have n11_ := aM (blk_below (g := gb331) (o := .cells #[.slice Ao21 t324.length co21, .slice Ao24 t327.length co24] 26 (0, 0)) (by (with_reducible repeat (first|apply kN|apply kD|apply kA)); exact BK331.out) hb)
                      have n12_ := aM (blk_below (g := gb348) (o := .cells #[.slice Ao86 t341.length co86, .slice Ao88 t344.length co88] 26 (0, 0)) (by (with_reducible repeat (first|apply kN|apply kD|apply kA)); exact BK348.out) hb)
                      have n13_ := aM (blk_below (g := gb358) (o := .cells #[.slice Ao96 t351.length co96, .slice Ao98 t354.length co98] 26 (0, 0)) (by (with_reducible repeat (first|apply kN|apply kD|apply kA)); exact BK358.out) hb)
                      have n14_ := aM (below_step (by repeat (first | (with_reducible first|exact HB.out|apply bA|apply bN|apply bD|refine bS ?_ GE320.out|refine bS ?_ GE331.out|refine bS ?_ GE348.out|refine bS ?_ GE358.out)|exact HB.out)) hb)
                      clear HO_5
                      clear HO_332000
                      clear HO_332001
                      clear HO343
                      clear HO346
                      clear HO353
                      clear HO356
                      clear HO362
                      clear HO365
                      clear HO368
                      clear BK320
                      clear BK331
                      clear BK348
                      clear BK358
                      clear HB
                      have HO_5 := n0_
                      have HO_332000 := n1_
                      have HO_332001 := n2_
                      have HO343 := n3_
                      have HO346 := n4_
                      have HO353 := n5_
                      have HO356 := n6_
                      have HO362 := n7_
                      have HO365 := n8_
                      have HO368 := n9_
                      have BK320 := n10_
                      have BK331 := n11_
                      have BK348 := n12_
                      have BK358 := n13_
                      have HB := n14_
                      clear n0_ n1_ n2_ n3_ n4_ n5_ n6_ n7_ n8_ n9_ n10_ n11_ n12_ n13_ n14_
                      (try clear hb)
                      skip
                      (try clear hk)
                      skip
                      refine hK.out _ _ ⟨(blk_cell BK331.out 0).trans rfl, (blk_cell BK331.out 1).trans rfl, (blk_cell BK320.out 0).trans rfl, (blk_cell BK320.out 1).trans rfl, (blk_cell BK320.out 2).trans rfl, (blk_cell BK320.out 3).trans rfl, (blk_cell BK320.out 4).trans rfl, (blk_cell BK320.out 5).trans rfl, (blk_cell BK320.out 6).trans rfl, (blk_cell BK348.out 0).trans rfl, (blk_cell BK348.out 1).trans rfl, (blk_cell BK358.out 0).trans rfl, (blk_cell BK358.out 1).trans rfl⟩ (fun hHeld => ?_)
                      clear hK K
                      refine norm_ (a' := ?_) ?_ ?_
                      rotate_left
                      ·show Act.put _ (some 187) _ = _
                       simp only [Act.put, List.setIfInBounds_toArray, List.set_cons_zero, List.set_cons_succ, i64_w, i32_w]
                       rfl
                      refine pure_ (i := 46) (N := some 188) (JoinW.bA 51 140737488355327) rfl rfl (any_of HT_.out (by kernel_rfl)) (fun _ _ _ h => h) (Or.inl ⟨by rfl, by intro w'; go_simp; with_reducible rfl⟩) (by simp only [Act.put, List.setIfInBounds_toArray, List.set_cons_zero, List.set_cons_succ, i64_w, i32_w]; rfl) ?_
                      refine pure_ (i := 47) (N := some 189) (JoinW.bA 51 281474976710655) rfl rfl (any_of HT_.out (by kernel_rfl)) (fun _ _ _ h => h) (Or.inl ⟨by rfl, by intro w'; go_simp; with_reducible rfl⟩) (by simp only [Act.put, List.setIfInBounds_toArray, List.set_cons_zero, List.set_cons_succ, i64_w, i32_w]; rfl) ?_
                      refine one_ (i := 48) (N := some 190) (JoinW.bA 51 562949953421311) rfl rfl (one_of HT_.out (by kernel_rfl)) (by decide) (fun K hK => ?_)
                      refine goes_ Try.func9 (by kernel_rfl) rfl #[] (by rfl) rfl rfl (by (try simp only [List.map_toArray, List.map_cons, List.map_nil]); first | done | rfl | (simp only [List.length_drop, List.length_take]; rfl)) ?_
                      with_reducible refine (athanorlaw04_awake.calls kj44  t372 _ A81.out).mono ?_
                      rintro e w111 ⟨rfl, hb⟩
                      refine ⟨_, rfl, ?_⟩
                      have n0_ := aM (Kd.R_below (by (with_reducible repeat (first|apply rA|apply rN|apply rD)); exact HO_5.out) hb)
                      have n1_ := aM (Kd.R_below (by (with_reducible repeat (first|apply rA|apply rN|apply rD)); exact HO_332000.out) hb)
                      have n2_ := aM (Kd.R_below (by (with_reducible repeat (first|apply rA|apply rN|apply rD)); exact HO_332001.out) hb)
                      have n3_ := aM (Kd.R_below (by (with_reducible repeat (first|apply rA|apply rN|apply rD)); exact HO343.out) hb)
                      have n4_ := aM (Kd.R_below (by (with_reducible repeat (first|apply rA|apply rN|apply rD)); exact HO346.out) hb)
                      have n5_ := aM (Kd.R_below (by (with_reducible repeat (first|apply rA|apply rN|apply rD)); exact HO353.out) hb)
                      have n6_ := aM (Kd.R_below (by (with_reducible repeat (first|apply rA|apply rN|apply rD)); exact HO356.out) hb)
                      have n7_ := aM (Kd.R_below (by (with_reducible repeat (first|apply rA|apply rN|apply rD)); exact HO362.out) hb)
                      have n8_ := aM (Kd.R_below (by (with_reducible repeat (first|apply rA|apply rN|apply rD)); exact HO365.out) hb)
                      have n9_ := aM (Kd.R_below (by (with_reducible repeat (first|apply rA|apply rN|apply rD)); exact HO368.out) hb)
                      have n10_ := aM (blk_below (g := gb320) (o := .cells #[.slice (some ad340) l0_0.length c0_0, .slice A0_1 l0_1.length c0_1, .slice A0_2 l0_2.length c0_2, .slice A0_3 l0_3.length c0_3, .int .i64 a0_4, .int .i64 a0_5, .int .i64 a0_6] 47 (0, 0)) (by (with_reducible repeat (first|apply kN|apply kD|apply kA)); exact BK320.out) hb)
                      have n11_ := aM (blk_below (g := gb331) (o := .cells #[.slice Ao21 t324.length co21, .slice Ao24 t327.length co24] 26 (0, 0)) (by (with_reducible repeat (first|apply kN|apply kD|apply kA)); exact BK331.out) hb)
                      have n12_ := aM (blk_below (g := gb348) (o := .cells #[.slice Ao86 t341.length co86, .slice Ao88 t344.length co88] 26 (0, 0)) (by (with_reducible repeat (first|apply kN|apply kD|apply kA)); exact BK348.out) hb)
                      have n13_ := aM (blk_below (g := gb358) (o := .cells #[.slice Ao96 t351.length co96, .slice Ao98 t354.length co98] 26 (0, 0)) (by (with_reducible repeat (first|apply kN|apply kD|apply kA)); exact BK358.out) hb)
                      have n14_ := aM (below_step (by repeat (first | (with_reducible first|exact HB.out|apply bA|apply bN|apply bD|refine bS ?_ GE320.out|refine bS ?_ GE331.out|refine bS ?_ GE348.out|refine bS ?_ GE358.out)|exact HB.out)) hb)
                      clear HO_5
                      clear HO_332000
                      clear HO_332001
                      clear HO343
                      clear HO346
                      clear HO353
                      clear HO356
                      clear HO362
                      clear HO365
                      clear HO368
                      clear BK320
                      clear BK331
                      clear BK348
                      clear BK358
                      clear HB
                      have HO_5 := n0_
                      have HO_332000 := n1_
                      have HO_332001 := n2_
                      have HO343 := n3_
                      have HO346 := n4_
                      have HO353 := n5_
                      have HO356 := n6_
                      have HO362 := n7_
                      have HO365 := n8_
                      have HO368 := n9_
                      have BK320 := n10_
                      have BK331 := n11_
                      have BK348 := n12_
                      have BK358 := n13_
                      have HB := n14_
                      clear n0_ n1_ n2_ n3_ n4_ n5_ n6_ n7_ n8_ n9_ n10_ n11_ n12_ n13_ n14_
                      (try clear hb)
                      skip
                      (try clear hk)
                      skip
                      refine hK.out _ _ ⟨(blk_cell BK331.out 0).trans rfl, (blk_cell BK331.out 1).trans rfl, (blk_cell BK320.out 0).trans rfl, (blk_cell BK320.out 1).trans rfl, (blk_cell BK320.out 2).trans rfl, (blk_cell BK320.out 3).trans rfl, (blk_cell BK320.out 4).trans rfl, (blk_cell BK320.out 5).trans rfl, (blk_cell BK320.out 6).trans rfl, (blk_cell BK348.out 0).trans rfl, (blk_cell BK348.out 1).trans rfl, (blk_cell BK358.out 0).trans rfl, (blk_cell BK358.out 1).trans rfl⟩ (fun hHeld => ?_)
                      clear hK K
                      refine norm_ (a' := ?_) ?_ ?_
                      rotate_left
                      ·show Act.put _ (some 190) _ = _
                       simp only [Act.put, List.setIfInBounds_toArray, List.set_cons_zero, List.set_cons_succ, i64_w, i32_w]
                       rfl
                      refine pure_ (i := 49) (N := some 191) (JoinW.bA 51 1125899906842623) rfl rfl (any_of HT_.out (by kernel_rfl)) (fun _ _ _ h => h) (Or.inl ⟨by rfl, by intro w'; go_simp; with_reducible rfl⟩) (by simp only [Act.put, List.setIfInBounds_toArray, List.set_cons_zero, List.set_cons_succ, i64_w, i32_w]; rfl) ?_
                      refine pure_ (i := 50) (N := some 2) (JoinW.bA 51 2251799813685247) rfl rfl (any_of HT_.out (by kernel_rfl)) (fun _ _ _ h => h) (Or.inl ⟨by rfl, by intro w'; go_simp; with_reducible rfl⟩) (by simp only [Act.put, List.setIfInBounds_toArray, List.set_cons_zero, List.set_cons_succ, i64_w, i32_w]; rfl) ?_
                      refine done_ (done_of HT_.out (by kernel_rfl)) ?_
                      try go_wp2
                      go_ret
                      exact ⟨by first | rfl | (simp [errW_none, errW_some] <;> rfl) | (simp [*, errW_none, errW_some] <;> rfl), by repeat (first | (with_reducible first|exact HB.out|apply bA|apply bN|apply bD|refine bS ?_ GE320.out|refine bS ?_ GE331.out|refine bS ?_ GE348.out|refine bS ?_ GE358.out)|exact HB.out)⟩
                    ·replace c80 := Bool.eq_false_iff.mpr c80
                     subst c80
                     have H1 : (none) = some r := by rw [if_neg (show ¬ (false = true) by decide)] at H; exact H
                     clear H
                     have H := H1
                     clear H1
                     exact absurd H (by simp)
                   ·replace c78 := Bool.eq_false_iff.mpr c78
                    subst c78
                    have H1 : (none) = some r := by rw [if_neg (show ¬ (false = true) by decide)] at H; exact H
                    clear H
                    have H := H1
                    clear H1
                    exact absurd H (by simp)
                  ·rw [if_neg c76] at H
                   have c76b0 : (t357 == 0) = false := beq_eq_false_iff_ne.mpr c76
                   have c76b1 : (t357 != 0) = true := bne_iff_ne.mpr c76
                   exact absurd H (by simp)
                 ·rw [if_neg c75] at H
                  have c75b0 : (t347 == 0) = false := beq_eq_false_iff_ne.mpr c75
                  have c75b1 : (t347 != 0) = true := bne_iff_ne.mpr c75
                  exact absurd H (by simp)
                ·replace c74 := Bool.eq_false_iff.mpr c74
                 subst c74
                 have H1 : (none) = some r := by rw [if_neg (show ¬ (false = true) by decide)] at H; exact H
                 clear H
                 have H := H1
                 clear H1
                 exact absurd H (by simp)
               ·replace c69 := Bool.eq_false_iff.mpr c69
                subst c69
                have H1 : (none) = some r := by rw [if_neg (show ¬ (false = true) by decide)] at H; exact H
                clear H
                have H := H1
                clear H1
                exact absurd H (by simp)
              ·rw [if_neg c67] at H
               have c67b0 : (t330 == 0) = false := beq_eq_false_iff_ne.mpr c67
               have c67b1 : (t330 != 0) = true := bne_iff_ne.mpr c67
               exact absurd H (by simp)
             ·rw [if_neg c65] at H
              exact absurd H (by simp)
            ·rw [if_neg c63] at H
             exact absurd H (by simp)
           ·rw [if_neg c62] at H
            exact absurd H (by simp)
       ·rw [if_neg c44] at H
        have c44b0 : (t336 == 0) = false := beq_eq_false_iff_ne.mpr c44
        have c44b1 : (t336 != 0) = true := bne_iff_ne.mpr c44
        by_cases c112 : t330 = t336
        ·rw [if_pos c112] at H
         have c112b0 : (t330 == t336) = true := beq_iff_eq.mpr c112
         have c112b1 : (t330 != t336) = false := bne_eq_false_iff_eq.mpr c112
         clear c112
         by_cases c113 : (t327.length : Int) = 0
         ·rw [if_pos c113] at H
          have c113b0 : ((t327.length : Int) == 0) = true := beq_iff_eq.mpr c113
          have c113b1 : ((t327.length : Int) != 0) = false := bne_eq_false_iff_eq.mpr c113
          clear c113
          replace H := Option.bind_eq_some_iff.mp H
          obtain ⟨t339, A1140, H⟩ := H
          replace H : (some t339) = some r := H
          have A114 := Aside0.mk A1140
          clear A1140
          as_aux_lemma =>
           obtain rfl := Option.some.inj H
           have hnb115 := NB320_331.out
           have hnc115 := NB331_320.out
           have hcz116_0 : wc.cell? ⟨gb320, 0, none⟩ = some (.slice A0_0 l0_0.length c0_0) := (blk_cell BK320.out 0).trans rfl
           have hcz116_1 : wc.cell? ⟨gb320, 1, none⟩ = some (.slice A0_1 l0_1.length c0_1) := (blk_cell BK320.out 1).trans rfl
           have hcz116_2 : wc.cell? ⟨gb320, 2, none⟩ = some (.slice A0_2 l0_2.length c0_2) := (blk_cell BK320.out 2).trans rfl
           have hcz116_3 : wc.cell? ⟨gb320, 3, none⟩ = some (.slice A0_3 l0_3.length c0_3) := (blk_cell BK320.out 3).trans rfl
           have hcz116_4 : wc.cell? ⟨gb320, 4, none⟩ = some (.int .i64 a0_4) := (blk_cell BK320.out 4).trans rfl
           have hcz116_5 : wc.cell? ⟨gb320, 5, none⟩ = some (.int .i64 a0_5) := (blk_cell BK320.out 5).trans rfl
           have hcz116_6 : wc.cell? ⟨gb320, 6, none⟩ = some (.int .i64 a0_6) := (blk_cell BK320.out 6).trans rfl
           have hfz116_0 := blk_frozen BK320.out 0
           have hfz116_1 := blk_frozen BK320.out 1
           have hfz116_2 := blk_frozen BK320.out 2
           have hfz116_3 := blk_frozen BK320.out 3
           have hfz116_4 := blk_frozen BK320.out 4
           have hfz116_5 := blk_frozen BK320.out 5
           have hfz116_6 := blk_frozen BK320.out 6
           go_wp2_with (first | ((with_reducible refine gate_callee (f := 34) rfl ?_); refine goesL_ (some 62) rfl rfl Try.func34 (by kernel_rfl) rfl #[.slice A0_0 l0_0.length c0_0, .slice A0_2 l0_2.length c0_2, .int .i64 a0_4] rfl (by (try simp only [List.map_toArray, List.map_cons, List.map_nil]); first | done | rfl | (simp only [List.length_drop, List.length_take]; rfl)) ?_; (with_reducible refine (shape_Shape_Join.calls kj16 _ _ l0_0 _ _ l0_2 a0_4 t335 t336 _ ?side1 ?side2 ?side3 ?side4 A43.out).mono ?_); (case side1 => repeat (first|exact (Kd.C_below HR0_0.out HB.out) | with_reducible first|apply cA|apply cN|apply cD)); (case side2 => exact HC0_0.out); (case side3 => repeat (first|exact (Kd.C_below HR0_2.out HB.out) | with_reducible first|apply cA|apply cN|apply cD)); (case side4 => exact HC0_2.out); rintro e w117 ⟨v337, rfl, ho0, hb⟩; refine ⟨_, rfl, ?_⟩; have n0_ := aM (Kd.R_elder' (by (with_reducible repeat (first|apply rA|apply rN|apply rD)); exact HO_332000.out) (Kd.R_base ho0) hb); have n1_ := aM (Kd.R_below (by (with_reducible repeat (first|apply rA|apply rN|apply rD)); exact HO_332001.out) hb); have n2_ := aM (Kd.R_lower (Kd.R_new' ho0 (Kd.R_lt (by (with_reducible repeat (first|apply rA|apply rN|apply rD)); exact HO_332000.out))) (below_size (by repeat (first | (with_reducible first|exact HB.out|apply bA|apply bN|apply bD|refine bS ?_ GE320.out|refine bS ?_ GE331.out)|exact HB.out)))); have n3_ := aM (blk_below (g := gb320) (o := .cells #[.slice A0_0 l0_0.length c0_0, .slice A0_1 l0_1.length c0_1, .slice A0_2 l0_2.length c0_2, .slice A0_3 l0_3.length c0_3, .int .i64 a0_4, .int .i64 a0_5, .int .i64 a0_6] 47 (0, 0)) (by (with_reducible repeat (first|apply kN|apply kD|apply kA)); exact BK320.out) hb); have n4_ := aM (blk_below (g := gb331) (o := .cells #[.slice Ao21 t324.length co21, .slice Ao24 t327.length co24] 26 (0, 0)) (by (with_reducible repeat (first|apply kN|apply kD|apply kA)); exact BK331.out) hb); have n5_ := aM (below_step (by repeat (first | (with_reducible first|exact HB.out|apply bA|apply bN|apply bD|refine bS ?_ GE320.out|refine bS ?_ GE331.out)|exact HB.out)) hb); clear HO_332000; clear HO_332001; clear BK320; clear BK331; clear HB; have HO_332000 := n0_; have HO_332001 := n1_; have HO338 := n2_; have BK320 := n3_; have BK331 := n4_; have HB := n5_; clear n0_ n1_ n2_ n3_ n4_ n5_; (try clear hb); (try clear ho0); have hcz118_0 : w117.cell? ⟨gb331, 0, none⟩ = some (.slice Ao21 t324.length co21) := (blk_cell BK331.out 0).trans rfl; have hcz118_1 : w117.cell? ⟨gb331, 1, none⟩ = some (.slice Ao24 t327.length co24) := (blk_cell BK331.out 1).trans rfl; have hfz118_0 := blk_frozen BK331.out 0; have hfz118_1 := blk_frozen BK331.out 1) | (go_at_call 9; (with_reducible refine (athanorlaw04_awake.calls kj16  t339 _ A114.out).mono ?_); rintro e w119 ⟨rfl, hb⟩; have n0_ := aM (Kd.R_below (by (with_reducible repeat (first|apply rA|apply rN|apply rD)); exact HO_332000.out) hb); have n1_ := aM (Kd.R_below (by (with_reducible repeat (first|apply rA|apply rN|apply rD)); exact HO_332001.out) hb); have n2_ := aM (Kd.R_below (by (with_reducible repeat (first|apply rA|apply rN|apply rD)); exact HO338.out) hb); have n3_ := aM (blk_below (g := gb320) (o := .cells #[.slice A0_0 l0_0.length c0_0, .slice A0_1 l0_1.length c0_1, .slice A0_2 l0_2.length c0_2, .slice A0_3 l0_3.length c0_3, .int .i64 a0_4, .int .i64 a0_5, .int .i64 a0_6] 47 (0, 0)) (by (with_reducible repeat (first|apply kN|apply kD|apply kA)); exact BK320.out) hb); have n4_ := aM (blk_below (g := gb331) (o := .cells #[.slice Ao21 t324.length co21, .slice Ao24 t327.length co24] 26 (0, 0)) (by (with_reducible repeat (first|apply kN|apply kD|apply kA)); exact BK331.out) hb); have n5_ := aM (below_step (by repeat (first | (with_reducible first|exact HB.out|apply bA|apply bN|apply bD|refine bS ?_ GE320.out|refine bS ?_ GE331.out)|exact HB.out)) hb); clear HO_332000; clear HO_332001; clear HO338; clear BK320; clear BK331; clear HB; have HO_332000 := n0_; have HO_332001 := n1_; have HO338 := n2_; have BK320 := n3_; have BK331 := n4_; have HB := n5_; clear n0_ n1_ n2_ n3_ n4_ n5_; (try clear hb)))
           go_ret
           exact ⟨by first | rfl | (simp [errW_none, errW_some] <;> rfl) | (simp [*, errW_none, errW_some] <;> rfl), by repeat (first | (with_reducible first|exact HB.out|apply bA|apply bN|apply bD|refine bS ?_ GE320.out|refine bS ?_ GE331.out)|exact HB.out)⟩
         ·rw [if_neg c113] at H
          exact absurd H (by simp)
        ·rw [if_neg c112] at H
         exact absurd H (by simp)

/-- THE ONE PURE STATEMENT of athanorlaw04_TensorJoins: yours. -/
def athanorlaw04_TensorJoins.Pure : Prop := ∀ (x0 : S47), good47 x0 → ∃ k, athanorlaw04_TensorJoins.f k x0.f0.f0 x0.f0.f1 x0.f1.f0 x0.f1.f1 x0.f2 x0.f3 x0.f4 = some true

end Go.Proofs.Ytmekcfmhaflghaa.PJoi
