-- printed by wip/tools/xp.py of this project (not trusted: Lean checks it)
import Derived.Test.YtgmgjddfceilhaaPDenx0
import Derived.Test.YtgmgjddfceilhaaPDenx2
import Derived.Test.YtgmgjddfceilhaaPDenx3
import Derived.Test.YtgmgjddfceilhaaPDenx4
import Derived.Test.YtgmgjddfceilhaaPDenx6
namespace Go.Proofs.Ytgmgjddfceilhaa.PDen
open Go.RowKit Go.Proofs.YtgmgjddfceilhaaW.PrintWords Go.Proofs.YtgmgjddfceilhaaW.PrintLast Go.Proofs.YtgmgjddfceilhaaW.PrintMore Go.Proofs.Ytgmgjddfceilhaa.XW
attribute [local go_sem] max2_int min2_int max_two min_two max_three min_three max_four min_four max_five min_five   -- for this text's walks alone
set_option linter.unusedVariables false
set_option linter.unusedSimpArgs false

/-! ### dense_Back: function 15 -/
mutual
def dense_Back.j0 : Nat → Bool → List Int → List Int → List Int → List Int → List Int → List Int → Option (List Int × List Int × List Int × List Int × List Int × List Int × Int)
 | 0, _, _, _, _, _, _, _ => none
 | k + 1, x29, x219000, x219001, x221000, x221001, x222000, x222001 => if x29 = true then (some (([] : List Int), ([] : List Int), ([] : List Int), ([] : List Int), ([] : List Int), ([] : List Int), 20)) else ((tensor_Grid_fix_F_Copy.f x219000 x219001).bind fun bt226 => ((tensor_Grid_fix_F_Copy.f x222000 x222001).bind fun bt232 => ((tensor_Grid_fix_F_Copy.f x221000 x221001).bind fun bt238 => (dense_Back.l0 k x222001 (x222001.length : Int) 0 x219000 x219001 x221000 x221001 x222000 x222001 bt226.1 bt226.2 bt232.1 bt232.2 bt238.1 bt238.2))))
def dense_Back.l0 : Nat → List Int → Int → Int → List Int → List Int → List Int → List Int → List Int → List Int → List Int → List Int → List Int → List Int → List Int → List Int → Option (List Int × List Int × List Int × List Int × List Int × List Int × Int)
 | 0, _, _, _, _, _, _, _, _, _, _, _, _, _, _, _ => none
 | k + 1, x39, x40, x41, x219000, x219001, x221000, x221001, x222000, x222001, x245000, x245001, x245002, x245003, x245004, x245005 => if x41 < x40 then (if 0 ≤ x41 then (if x41 < (x39.length : Int) then (dense_Back.l1 k x41 (rd x39 x41) x39 x40 x41 x221001 (x221001.length : Int) 0 x219000 x219001 x221000 x221001 x222000 x222001 x245000 x245001 x245002 x245003 x245004 x245005) else (none)) else (none)) else (dense_Back.l2 k (x221001.length : Int) 0 x219000 x219001 x222000 x222001 x245000 x245001 x245002 x245003 x245004 x245005)
def dense_Back.l1 : Nat → Int → Int → List Int → Int → Int → List Int → Int → Int → List Int → List Int → List Int → List Int → List Int → List Int → List Int → List Int → List Int → List Int → List Int → List Int → Option (List Int × List Int × List Int × List Int × List Int × List Int × Int)
 | 0, _, _, _, _, _, _, _, _, _, _, _, _, _, _, _, _, _, _, _, _ => none
 | k + 1, x11, x12, x39, x40, x41, x47, x48, x49, x219000, x219001, x221000, x221001, x222000, x222001, x245000, x245001, x245002, x245003, x245004, x245005 => if x49 < x48 then (if 0 ≤ x49 then (if x49 < (x47.length : Int) then (if 1 < (x219000.length : Int) then ((fix_F_Mul.f k x12 (rd x47 x49)).bind fun t248 => (if 0 ≤ (wrap64 ((wrap64 (x11 * (rd x219000 1))) + x49)) then (if (wrap64 ((wrap64 (x11 * (rd x219000 1))) + x49)) < (x245001.length : Int) then (dense_Back.l1 k x11 x12 x39 x40 x41 x47 x48 (wrap64 (x49 + 1)) x219000 x219001 x221000 x221001 x222000 x222001 x245000 (x245001.set ((wrap64 ((wrap64 (x11 * (rd x219000 1))) + x49)) : Int).toNat t248) x245002 x245003 x245004 x245005) else (none)) else (none))) else (none)) else (none)) else (none)) else (dense_Back.l0 k x39 x40 (wrap64 (x41 + 1)) x219000 x219001 x221000 x221001 x222000 x222001 x245000 x245001 x245002 x245003 x245004 x245005)
def dense_Back.l2 : Nat → Int → Int → List Int → List Int → List Int → List Int → List Int → List Int → List Int → List Int → List Int → List Int → Option (List Int × List Int × List Int × List Int × List Int × List Int × Int)
 | 0, _, _, _, _, _, _, _, _, _, _, _, _ => none
 | k + 1, x73, x74, x219000, x219001, x222000, x222001, x245000, x245001, x245002, x245003, x245004, x245005 => if x74 < x73 then ((dense_Column.f k x219000 x219001 x74).bind fun t250 => ((fix_Dot.f k t250 x222001).bind fun t253 => (if 0 ≤ x74 then (if x74 < (x245005.length : Int) then (dense_Back.l2 k x73 (wrap64 (x74 + 1)) x219000 x219001 x222000 x222001 x245000 x245001 x245002 x245003 x245004 (x245005.set (x74 : Int).toNat t253)) else (none)) else (none)))) else (some (x245000, x245001, x245002, x245003, x245004, x245005, 0))
end
def dense_Back.f (k : Nat) (l0_0 : List Int) (l0_1 : List Int) (l1_0 : List Int) (l1_1 : List Int) (l2_0 : List Int) (l2_1 : List Int) (l3_0 : List Int) (l3_1 : List Int) : Option (List Int × List Int × List Int × List Int × List Int × List Int × Int) := (dense_fits.f k l0_0 l0_1 l1_0 l1_1 l2_0 l2_1).bind fun t223 => (if t223 = true then (if 0 < (l0_0.length : Int) then ((dense_line.f k l3_0 l3_1 (rd l0_0 0)).bind fun t225 => (dense_Back.j0 k (!t225) l0_0 l0_1 l2_0 l2_1 l3_0 l3_1)) else (none)) else (dense_Back.j0 k true l0_0 l0_1 l2_0 l2_1 l3_0 l3_1))
theorem dense_Back.mono_l : ∀ k, (∀ y0 y1 y2 y3 y4 y5 y6, LeO (dense_Back.j0 k y0 y1 y2 y3 y4 y5 y6) (dense_Back.j0 (k + 1) y0 y1 y2 y3 y4 y5 y6)) ∧ (∀ y0 y1 y2 y3 y4 y5 y6 y7 y8 y9 y10 y11 y12 y13 y14, LeO (dense_Back.l0 k y0 y1 y2 y3 y4 y5 y6 y7 y8 y9 y10 y11 y12 y13 y14) (dense_Back.l0 (k + 1) y0 y1 y2 y3 y4 y5 y6 y7 y8 y9 y10 y11 y12 y13 y14)) ∧ (∀ y0 y1 y2 y3 y4 y5 y6 y7 y8 y9 y10 y11 y12 y13 y14 y15 y16 y17 y18 y19, LeO (dense_Back.l1 k y0 y1 y2 y3 y4 y5 y6 y7 y8 y9 y10 y11 y12 y13 y14 y15 y16 y17 y18 y19) (dense_Back.l1 (k + 1) y0 y1 y2 y3 y4 y5 y6 y7 y8 y9 y10 y11 y12 y13 y14 y15 y16 y17 y18 y19)) ∧ (∀ y0 y1 y2 y3 y4 y5 y6 y7 y8 y9 y10 y11, LeO (dense_Back.l2 k y0 y1 y2 y3 y4 y5 y6 y7 y8 y9 y10 y11) (dense_Back.l2 (k + 1) y0 y1 y2 y3 y4 y5 y6 y7 y8 y9 y10 y11))
 | 0 => ⟨fun _ _ _ _ _ _ _ r h => by simp [dense_Back.j0] at h, fun _ _ _ _ _ _ _ _ _ _ _ _ _ _ _ r h => by simp [dense_Back.l0] at h, fun _ _ _ _ _ _ _ _ _ _ _ _ _ _ _ _ _ _ _ _ r h => by simp [dense_Back.l1] at h, fun _ _ _ _ _ _ _ _ _ _ _ _ r h => by simp [dense_Back.l2] at h⟩
 | k + 1 => by
  obtain ⟨ih0, ih1, ih2, ih3⟩ := dense_Back.mono_l k
  refine ⟨?_, ?_, ?_, ?_⟩
  ·intro y0 y1 y2 y3 y4 y5 y6
   unfold dense_Back.j0
   repeat' first
   | (with_reducible exact ih0 _ _ _ _ _ _ _)
   | (with_reducible exact ih1 _ _ _ _ _ _ _ _ _ _ _ _ _ _ _)
   | (with_reducible exact ih2 _ _ _ _ _ _ _ _ _ _ _ _ _ _ _ _ _ _ _ _)
   | (with_reducible exact ih3 _ _ _ _ _ _ _ _ _ _ _ _)
   | (with_reducible exact dense_Column.mono _ _ _ _)
   | (with_reducible exact dense_fits.mono _ _ _ _ _ _ _)
   | (with_reducible exact dense_line.mono _ _ _ _)
   | (with_reducible exact fix_Dot.mono _ _ _)
   | (with_reducible exact fix_F_Mul.mono _ _ _)
   | (with_reducible exact LeO.refl _)
   | (with_reducible exact LeO.none _)
   | (with_reducible refine LeO.ite ?_ ?_)
   | (with_reducible refine LeO.bind ?_ (fun _ => ?_))
   | exact ih0 _ _ _ _ _ _ _
   | exact ih1 _ _ _ _ _ _ _ _ _ _ _ _ _ _ _
   | exact ih2 _ _ _ _ _ _ _ _ _ _ _ _ _ _ _ _ _ _ _ _
   | exact ih3 _ _ _ _ _ _ _ _ _ _ _ _
   | exact dense_Column.mono _ _ _ _
   | exact dense_fits.mono _ _ _ _ _ _ _
   | exact dense_line.mono _ _ _ _
   | exact fix_Dot.mono _ _ _
   | exact fix_F_Mul.mono _ _ _
   | exact LeO.none _
   | refine LeO.ite ?_ ?_
   | refine LeO.bind ?_ (fun _ => ?_)
  ·intro y0 y1 y2 y3 y4 y5 y6 y7 y8 y9 y10 y11 y12 y13 y14
   unfold dense_Back.l0
   repeat' first
   | (with_reducible exact ih0 _ _ _ _ _ _ _)
   | (with_reducible exact ih1 _ _ _ _ _ _ _ _ _ _ _ _ _ _ _)
   | (with_reducible exact ih2 _ _ _ _ _ _ _ _ _ _ _ _ _ _ _ _ _ _ _ _)
   | (with_reducible exact ih3 _ _ _ _ _ _ _ _ _ _ _ _)
   | (with_reducible exact dense_Column.mono _ _ _ _)
   | (with_reducible exact dense_fits.mono _ _ _ _ _ _ _)
   | (with_reducible exact dense_line.mono _ _ _ _)
   | (with_reducible exact fix_Dot.mono _ _ _)
   | (with_reducible exact fix_F_Mul.mono _ _ _)
   | (with_reducible exact LeO.refl _)
   | (with_reducible exact LeO.none _)
   | (with_reducible refine LeO.ite ?_ ?_)
   | (with_reducible refine LeO.bind ?_ (fun _ => ?_))
   | exact ih0 _ _ _ _ _ _ _
   | exact ih1 _ _ _ _ _ _ _ _ _ _ _ _ _ _ _
   | exact ih2 _ _ _ _ _ _ _ _ _ _ _ _ _ _ _ _ _ _ _ _
   | exact ih3 _ _ _ _ _ _ _ _ _ _ _ _
   | exact dense_Column.mono _ _ _ _
   | exact dense_fits.mono _ _ _ _ _ _ _
   | exact dense_line.mono _ _ _ _
   | exact fix_Dot.mono _ _ _
   | exact fix_F_Mul.mono _ _ _
   | exact LeO.none _
   | refine LeO.ite ?_ ?_
   | refine LeO.bind ?_ (fun _ => ?_)
  ·intro y0 y1 y2 y3 y4 y5 y6 y7 y8 y9 y10 y11 y12 y13 y14 y15 y16 y17 y18 y19
   unfold dense_Back.l1
   repeat' first
   | (with_reducible exact ih0 _ _ _ _ _ _ _)
   | (with_reducible exact ih1 _ _ _ _ _ _ _ _ _ _ _ _ _ _ _)
   | (with_reducible exact ih2 _ _ _ _ _ _ _ _ _ _ _ _ _ _ _ _ _ _ _ _)
   | (with_reducible exact ih3 _ _ _ _ _ _ _ _ _ _ _ _)
   | (with_reducible exact dense_Column.mono _ _ _ _)
   | (with_reducible exact dense_fits.mono _ _ _ _ _ _ _)
   | (with_reducible exact dense_line.mono _ _ _ _)
   | (with_reducible exact fix_Dot.mono _ _ _)
   | (with_reducible exact fix_F_Mul.mono _ _ _)
   | (with_reducible exact LeO.refl _)
   | (with_reducible exact LeO.none _)
   | (with_reducible refine LeO.ite ?_ ?_)
   | (with_reducible refine LeO.bind ?_ (fun _ => ?_))
   | exact ih0 _ _ _ _ _ _ _
   | exact ih1 _ _ _ _ _ _ _ _ _ _ _ _ _ _ _
   | exact ih2 _ _ _ _ _ _ _ _ _ _ _ _ _ _ _ _ _ _ _ _
   | exact ih3 _ _ _ _ _ _ _ _ _ _ _ _
   | exact dense_Column.mono _ _ _ _
   | exact dense_fits.mono _ _ _ _ _ _ _
   | exact dense_line.mono _ _ _ _
   | exact fix_Dot.mono _ _ _
   | exact fix_F_Mul.mono _ _ _
   | exact LeO.none _
   | refine LeO.ite ?_ ?_
   | refine LeO.bind ?_ (fun _ => ?_)
  ·intro y0 y1 y2 y3 y4 y5 y6 y7 y8 y9 y10 y11
   unfold dense_Back.l2
   repeat' first
   | (with_reducible exact ih0 _ _ _ _ _ _ _)
   | (with_reducible exact ih1 _ _ _ _ _ _ _ _ _ _ _ _ _ _ _)
   | (with_reducible exact ih2 _ _ _ _ _ _ _ _ _ _ _ _ _ _ _ _ _ _ _ _)
   | (with_reducible exact ih3 _ _ _ _ _ _ _ _ _ _ _ _)
   | (with_reducible exact dense_Column.mono _ _ _ _)
   | (with_reducible exact dense_fits.mono _ _ _ _ _ _ _)
   | (with_reducible exact dense_line.mono _ _ _ _)
   | (with_reducible exact fix_Dot.mono _ _ _)
   | (with_reducible exact fix_F_Mul.mono _ _ _)
   | (with_reducible exact LeO.refl _)
   | (with_reducible exact LeO.none _)
   | (with_reducible refine LeO.ite ?_ ?_)
   | (with_reducible refine LeO.bind ?_ (fun _ => ?_))
   | exact ih0 _ _ _ _ _ _ _
   | exact ih1 _ _ _ _ _ _ _ _ _ _ _ _ _ _ _
   | exact ih2 _ _ _ _ _ _ _ _ _ _ _ _ _ _ _ _ _ _ _ _
   | exact ih3 _ _ _ _ _ _ _ _ _ _ _ _
   | exact dense_Column.mono _ _ _ _
   | exact dense_fits.mono _ _ _ _ _ _ _
   | exact dense_line.mono _ _ _ _
   | exact fix_Dot.mono _ _ _
   | exact fix_F_Mul.mono _ _ _
   | exact LeO.none _
   | refine LeO.ite ?_ ?_
   | refine LeO.bind ?_ (fun _ => ?_)
theorem dense_Back.mono : ∀ a0 a1 a2 a3 a4 a5 a6 a7 k, LeO (dense_Back.f k a0 a1 a2 a3 a4 a5 a6 a7) (dense_Back.f (k + 1) a0 a1 a2 a3 a4 a5 a6 a7) := by
 intro a0 a1 a2 a3 a4 a5 a6 a7 k
 obtain ⟨ih0, ih1, ih2, ih3⟩ := dense_Back.mono_l k
 unfold dense_Back.f
 repeat' first
   | (with_reducible exact ih0 _ _ _ _ _ _ _)
   | (with_reducible exact ih1 _ _ _ _ _ _ _ _ _ _ _ _ _ _ _)
   | (with_reducible exact ih2 _ _ _ _ _ _ _ _ _ _ _ _ _ _ _ _ _ _ _ _)
   | (with_reducible exact ih3 _ _ _ _ _ _ _ _ _ _ _ _)
   | (with_reducible exact dense_Column.mono _ _ _ _)
   | (with_reducible exact dense_fits.mono _ _ _ _ _ _ _)
   | (with_reducible exact dense_line.mono _ _ _ _)
   | (with_reducible exact fix_Dot.mono _ _ _)
   | (with_reducible exact fix_F_Mul.mono _ _ _)
   | (with_reducible exact LeO.refl _)
   | (with_reducible exact LeO.none _)
   | (with_reducible refine LeO.ite ?_ ?_)
   | (with_reducible refine LeO.bind ?_ (fun _ => ?_))
   | exact ih0 _ _ _ _ _ _ _
   | exact ih1 _ _ _ _ _ _ _ _ _ _ _ _ _ _ _
   | exact ih2 _ _ _ _ _ _ _ _ _ _ _ _ _ _ _ _ _ _ _ _
   | exact ih3 _ _ _ _ _ _ _ _ _ _ _ _
   | exact dense_Column.mono _ _ _ _
   | exact dense_fits.mono _ _ _ _ _ _ _
   | exact dense_line.mono _ _ _ _
   | exact fix_Dot.mono _ _ _
   | exact fix_F_Mul.mono _ _ _
   | exact LeO.none _
   | refine LeO.ite ?_ ?_
   | refine LeO.bind ?_ (fun _ => ?_)
def dense_Back.T1 : Bool × List (List Nat × List Nat) := (true, [([], []), ([], []), ([], []), ([0, 1, 2], [0, 1, 2]), ([3], [3]), ([4, 3], [4]), ([5], [5]), ([5], [5]), ([7, 5], [5, 7]), ([8, 5], [5, 8]), ([9, 5], [5, 9]), ([6, 10, 5, 5], [5, 6, 10]), ([11, 5], [5, 11]), ([5, 12], [5, 12])])
def dense_Back.B1 : List Nat := [0, 0, 0, 7, 15, 31, 63, 63, 191, 447, 959, 2047, 4095, 8191]
theorem dense_Back.tab1 : rtab .any (opsOf Try.f15 1) = dense_Back.T1 := by kernel_rfl
theorem dense_Back.bits1 : waitsOk dense_Back.T1.2 dense_Back.B1 = true := by kernel_rfl
def dense_Back.T3 : Bool × List (List Nat × List Nat) := (true, [([], []), ([0], [0]), ([], []), ([2, 1], [2]), ([], []), ([4, 3], [4]), ([1, 3, 5], [1, 3, 5]), ([], []), ([7, 6, 5, 0, 1, 2, 3, 4, 5, 6, 7], [6, 7])])
def dense_Back.B3 : List Nat := [0, 1, 0, 7, 0, 31, 63, 0, 255]
theorem dense_Back.tab3 : rtab .any (opsOf Try.f15 3) = dense_Back.T3 := by kernel_rfl
theorem dense_Back.bits3 : waitsOk dense_Back.T3.2 dense_Back.B3 = true := by kernel_rfl
def dense_Back.T10 : Bool × List (List Nat × List Nat) := (true, [([], []), ([0], [0]), ([1], [1]), ([], []), ([], []), ([4], [4]), ([5], [5]), ([6], [6]), ([3, 7], [3, 7]), ([], []), ([8, 9], [8, 9]), ([], []), ([], []), ([11, 12], [11, 12]), ([2, 10, 0, 1, 2, 3, 4, 5, 6, 7, 8, 9, 10, 11, 12, 13], [2, 10]), ([14, 13, 13, 0, 1, 2, 3, 4, 5, 6, 7, 8, 9, 10, 11, 12, 13], [13, 14])])
def dense_Back.B10 : List Nat := [0, 1, 3, 0, 0, 16, 48, 112, 248, 0, 1016, 0, 0, 6144, 16383, 32767]
theorem dense_Back.tab10 : rtab .any (opsOf Try.f15 10) = dense_Back.T10 := by kernel_rfl
theorem dense_Back.bits10 : waitsOk dense_Back.T10.2 dense_Back.B10 = true := by kernel_rfl
def dense_Back.T16 : Bool × List (List Nat × List Nat) := (true, [([], []), ([0], [0]), ([1], [1]), ([], []), ([], []), ([], []), ([4, 5], [4, 5]), ([], []), ([7], [7]), ([6, 8, 6], [6, 8]), ([2, 3, 0, 1, 2, 3, 4, 5, 6, 7, 8, 9], [2, 3]), ([10, 9, 9, 0, 1, 2, 3, 4, 5, 6, 7, 8, 9], [9, 10])])
def dense_Back.B16 : List Nat := [0, 1, 3, 0, 0, 0, 48, 0, 128, 496, 1023, 2047]
theorem dense_Back.tab16 : rtab .any (opsOf Try.f15 16) = dense_Back.T16 := by kernel_rfl
theorem dense_Back.bits16 : waitsOk dense_Back.T16.2 dense_Back.B16 = true := by kernel_rfl
set_option maxHeartbeats 8000000 in
set_option maxRecDepth 100000 in
theorem dense_Back.calls (k : Nat) (A0_0 : Option Addr) (c0_0 : Nat) (l0_0 : List Int) (A0_1 : Option Addr) (c0_1 : Nat) (l0_1 : List Int) (A1_0 : Option Addr) (c1_0 : Nat) (l1_0 : List Int) (A1_1 : Option Addr) (c1_1 : Nat) (l1_1 : List Int) (A2_0 : Option Addr) (c2_0 : Nat) (l2_0 : List Int) (A2_1 : Option Addr) (c2_1 : Nat) (l2_1 : List Int) (A3_0 : Option Addr) (c3_0 : Nat) (l3_0 : List Int) (A3_1 : Option Addr) (c3_1 : Nat) (l3_1 : List Int) (r1 : List Int) (r2 : List Int) (r3 : List Int) (r4 : List Int) (r5 : List Int) (r6 : List Int) (r7 : Int) (w : World) (hr0_0 : Kd.C (Kd.int .i64) w A0_0 l0_0.length l0_0) (hc0_0 : l0_0.length ≤ c0_0) (hr0_1 : Kd.C (Kd.int .i64) w A0_1 l0_1.length l0_1) (hc0_1 : l0_1.length ≤ c0_1) (hr1_0 : Kd.C (Kd.int .i64) w A1_0 l1_0.length l1_0) (hc1_0 : l1_0.length ≤ c1_0) (hr1_1 : Kd.C (Kd.int .i64) w A1_1 l1_1.length l1_1) (hc1_1 : l1_1.length ≤ c1_1) (hr2_0 : Kd.C (Kd.int .i64) w A2_0 l2_0.length l2_0) (hc2_0 : l2_0.length ≤ c2_0) (hr2_1 : Kd.C (Kd.int .i64) w A2_1 l2_1.length l2_1) (hc2_1 : l2_1.length ≤ c2_1) (hr3_0 : Kd.C (Kd.int .i64) w A3_0 l3_0.length l3_0) (hc3_0 : l3_0.length ≤ c3_0) (hr3_1 : Kd.C (Kd.int .i64) w A3_1 l3_1.length l3_1) (hc3_1 : l3_1.length ≤ c3_1) (h : dense_Back.f k l0_0 l0_1 l1_0 l1_1 l2_0 l2_1 l3_0 l3_1 = some (r1, r2, r3, r4, r5, r6, r7)) :
  Calls Try.prog 15 #[.agg #[.slice A0_0 l0_0.length c0_0, .slice A0_1 l0_1.length c0_1], .agg #[.slice A1_0 l1_0.length c1_0, .slice A1_1 l1_1.length c1_1], .agg #[.slice A2_0 l2_0.length c2_0, .slice A2_1 l2_1.length c2_1], .agg #[.slice A3_0 l3_0.length c3_0, .slice A3_1 l3_1.length c3_1]] w fun e w' => ∃ v0_ v1_ v2_ v3_ v4_ v5_ : Value, e = .returned (.tuple #[.agg #[v0_, v1_, v2_, v3_, v4_, v5_], .int .i64 r7]) ∧ Kd.R (Kd.int .i64) 3 w' w.heap.size (fun k_ => some k_ ≠ (v2_ : Value).ownBlock ∧ some k_ ≠ (v4_ : Value).ownBlock) v0_ r1 ∧ Kd.R (Kd.int .i64) 47 w' w.heap.size (fun k_ => some k_ ≠ (v3_ : Value).ownBlock ∧ some k_ ≠ (v5_ : Value).ownBlock) v1_ r2 ∧ Kd.R (Kd.int .i64) 3 w' w.heap.size (fun k_ => some k_ ≠ (v0_ : Value).ownBlock ∧ some k_ ≠ (v4_ : Value).ownBlock) v2_ r3 ∧ Kd.R (Kd.int .i64) 47 w' w.heap.size (fun k_ => some k_ ≠ (v1_ : Value).ownBlock ∧ some k_ ≠ (v5_ : Value).ownBlock) v3_ r4 ∧ Kd.R (Kd.int .i64) 3 w' w.heap.size (fun k_ => some k_ ≠ (v0_ : Value).ownBlock ∧ some k_ ≠ (v2_ : Value).ownBlock) v4_ r5 ∧ Kd.R (Kd.int .i64) 47 w' w.heap.size (fun k_ => some k_ ≠ (v1_ : Value).ownBlock ∧ some k_ ≠ (v3_ : Value).ownBlock) v5_ r6 ∧ Below w.heap.size w w' := by
 have hu26 := Try.underlying26
 have hu39 := Try.underlying39
 have HR0_0 := Aside0.mk hr0_0
 have HC0_0 := Aside0.mk hc0_0
 clear hr0_0 hc0_0
 have HR0_1 := Aside0.mk hr0_1
 have HC0_1 := Aside0.mk hc0_1
 clear hr0_1 hc0_1
 have HR1_0 := Aside0.mk hr1_0
 have HC1_0 := Aside0.mk hc1_0
 clear hr1_0 hc1_0
 have HR1_1 := Aside0.mk hr1_1
 have HC1_1 := Aside0.mk hc1_1
 clear hr1_1 hc1_1
 have HR2_0 := Aside0.mk hr2_0
 have HC2_0 := Aside0.mk hc2_0
 clear hr2_0 hc2_0
 have HR2_1 := Aside0.mk hr2_1
 have HC2_1 := Aside0.mk hc2_1
 clear hr2_1 hc2_1
 have HR3_0 := Aside0.mk hr3_0
 have HC3_0 := Aside0.mk hc3_0
 clear hr3_0 hc3_0
 have HR3_1 := Aside0.mk hr3_1
 have HC3_1 := Aside0.mk hc3_1
 clear hr3_1 hc3_1
 have HB := aM (Below.refl w.heap.size w)
 have H : ((dense_fits.f k l0_0 l0_1 l1_0 l1_1 l2_0 l2_1).bind fun t223 => (if t223 = true then (if 0 < (l0_0.length : Int) then ((dense_line.f k l3_0 l3_1 (rd l0_0 0)).bind fun t225 => (dense_Back.j0 k (!t225) l0_0 l0_1 l2_0 l2_1 l3_0 l3_1)) else (none)) else (dense_Back.j0 k true l0_0 l0_1 l2_0 l2_1 l3_0 l3_1))) = some (r1, r2, r3, r4, r5, r6, r7) := h
 clear h
 have HC5 := Aside0.mk H
 clear H
 go_enter Try.func15, Try.ntmps15
 go_upto_region 1 with (first | ((with_reducible refine gate_dst (N := 4) rfl ?_); refine box_event ?hg (N := 4) ?hd (cs := #[.slice A0_0 l0_0.length c0_0, .slice A0_1 l0_1.length c0_1]) (t := 26) ?hr ?_; (case hd => rfl); (case hg => rfl); (case hr => first | (go_simp; done) | (go_simp; rfl)); intro gb218 hg w6 hbox hb; have n0_ := aM (below_step (by repeat (first | (with_reducible first|exact HB.out|apply bA|apply bN|apply bD)|exact HB.out)) hb); have n1_ := aM (hbox); have n2_ := aM ((by rw [hg]; exact (below_size (by repeat (first | (with_reducible first|exact HB.out|apply bA|apply bN|apply bD)|exact HB.out))) : w.heap.size ≤ gb218)); have n3_ := aM ((by rw [hg]; exact (below_size (by repeat (first | (with_reducible first|exact HB.out|apply bA|apply bN|apply bD)|exact HB.out))) : w.heap.size ≤ gb218)); clear HB; have HB := n0_; have BK218 := n1_; have GW218 := n2_; have GE218 := n3_; clear n0_ n1_ n2_ n3_; clear hb hbox hg) | ((with_reducible refine gate_dst (N := 5) rfl ?_); refine box_event ?hg (N := 5) ?hd (cs := #[.slice A1_0 l1_0.length c1_0, .slice A1_1 l1_1.length c1_1]) (t := 26) ?hr ?_; (case hd => rfl); (case hg => rfl); (case hr => first | (go_simp; done) | (go_simp; rfl)); intro gb219 hg w7 hbox hb; have n0_ := aM (blk_below (g := gb218) (o := .cells #[.slice A0_0 l0_0.length c0_0, .slice A0_1 l0_1.length c0_1] 26 (0, 0)) (by (with_reducible repeat (first|apply kN|apply kD|apply kA)); exact BK218.out) hb); have n1_ := aM (below_step (by repeat (first | (with_reducible first|exact HB.out|apply bA|apply bN|apply bD|refine bS ?_ GE218.out)|exact HB.out)) hb); have n2_ := aM (hbox); have n3_ := aM ((by rw [hg]; exact (below_size (by repeat (first | (with_reducible first|exact HB.out|apply bA|apply bN|apply bD|refine bS ?_ GE218.out)|exact HB.out))) : w.heap.size ≤ gb219)); have n4_ := aM ((by rw [hg]; exact (below_size (by repeat (first | (with_reducible first|exact HB.out|apply bA|apply bN|apply bD|refine bS ?_ GE218.out)|exact HB.out))) : w.heap.size ≤ gb219)); have n5_ := aM ((by rw [hg]; exact Nat.ne_of_lt (blk_lt (g := gb218) (o := .cells #[.slice A0_0 l0_0.length c0_0, .slice A0_1 l0_1.length c0_1] 26 (0, 0)) (by (with_reducible repeat (first|apply kN|apply kD|apply kA)); exact BK218.out)) : gb218 ≠ gb219)); have n6_ := aM ((by rw [hg]; exact Nat.ne_of_gt (blk_lt (g := gb218) (o := .cells #[.slice A0_0 l0_0.length c0_0, .slice A0_1 l0_1.length c0_1] 26 (0, 0)) (by (with_reducible repeat (first|apply kN|apply kD|apply kA)); exact BK218.out)) : gb219 ≠ gb218)); clear BK218; clear HB; have BK218 := n0_; have HB := n1_; have BK219 := n2_; have GW219 := n3_; have GE219 := n4_; have NB218_219 := n5_; have NB219_218 := n6_; clear n0_ n1_ n2_ n3_ n4_ n5_ n6_; clear hb hbox hg) | ((with_reducible refine gate_dst (N := 6) rfl ?_); refine box_event ?hg (N := 6) ?hd (cs := #[.slice A2_0 l2_0.length c2_0, .slice A2_1 l2_1.length c2_1]) (t := 26) ?hr ?_; (case hd => rfl); (case hg => rfl); (case hr => first | (go_simp; done) | (go_simp; rfl)); intro gb220 hg w8 hbox hb; have n0_ := aM (blk_below (g := gb218) (o := .cells #[.slice A0_0 l0_0.length c0_0, .slice A0_1 l0_1.length c0_1] 26 (0, 0)) (by (with_reducible repeat (first|apply kN|apply kD|apply kA)); exact BK218.out) hb); have n1_ := aM (blk_below (g := gb219) (o := .cells #[.slice A1_0 l1_0.length c1_0, .slice A1_1 l1_1.length c1_1] 26 (0, 0)) (by (with_reducible repeat (first|apply kN|apply kD|apply kA)); exact BK219.out) hb); have n2_ := aM (below_step (by repeat (first | (with_reducible first|exact HB.out|apply bA|apply bN|apply bD|refine bS ?_ GE218.out|refine bS ?_ GE219.out)|exact HB.out)) hb); have n3_ := aM (hbox); have n4_ := aM ((by rw [hg]; exact (below_size (by repeat (first | (with_reducible first|exact HB.out|apply bA|apply bN|apply bD|refine bS ?_ GE218.out|refine bS ?_ GE219.out)|exact HB.out))) : w.heap.size ≤ gb220)); have n5_ := aM ((by rw [hg]; exact (below_size (by repeat (first | (with_reducible first|exact HB.out|apply bA|apply bN|apply bD|refine bS ?_ GE218.out|refine bS ?_ GE219.out)|exact HB.out))) : w.heap.size ≤ gb220)); have n6_ := aM ((by rw [hg]; exact Nat.ne_of_lt (blk_lt (g := gb218) (o := .cells #[.slice A0_0 l0_0.length c0_0, .slice A0_1 l0_1.length c0_1] 26 (0, 0)) (by (with_reducible repeat (first|apply kN|apply kD|apply kA)); exact BK218.out)) : gb218 ≠ gb220)); have n7_ := aM ((by rw [hg]; exact Nat.ne_of_gt (blk_lt (g := gb218) (o := .cells #[.slice A0_0 l0_0.length c0_0, .slice A0_1 l0_1.length c0_1] 26 (0, 0)) (by (with_reducible repeat (first|apply kN|apply kD|apply kA)); exact BK218.out)) : gb220 ≠ gb218)); have n8_ := aM ((by rw [hg]; exact Nat.ne_of_lt (blk_lt (g := gb219) (o := .cells #[.slice A1_0 l1_0.length c1_0, .slice A1_1 l1_1.length c1_1] 26 (0, 0)) (by (with_reducible repeat (first|apply kN|apply kD|apply kA)); exact BK219.out)) : gb219 ≠ gb220)); have n9_ := aM ((by rw [hg]; exact Nat.ne_of_gt (blk_lt (g := gb219) (o := .cells #[.slice A1_0 l1_0.length c1_0, .slice A1_1 l1_1.length c1_1] 26 (0, 0)) (by (with_reducible repeat (first|apply kN|apply kD|apply kA)); exact BK219.out)) : gb220 ≠ gb219)); clear BK218; clear BK219; clear HB; have BK218 := n0_; have BK219 := n1_; have HB := n2_; have BK220 := n3_; have GW220 := n4_; have GE220 := n5_; have NB218_220 := n6_; have NB220_218 := n7_; have NB219_220 := n8_; have NB220_219 := n9_; clear n0_ n1_ n2_ n3_ n4_ n5_ n6_ n7_ n8_ n9_; clear hb hbox hg) | ((with_reducible refine gate_dst (N := 7) rfl ?_); refine box_event ?hg (N := 7) ?hd (cs := #[.slice A3_0 l3_0.length c3_0, .slice A3_1 l3_1.length c3_1]) (t := 26) ?hr ?_; (case hd => rfl); (case hg => rfl); (case hr => first | (go_simp; done) | (go_simp; rfl)); intro gb221 hg w9 hbox hb; have n0_ := aM (blk_below (g := gb218) (o := .cells #[.slice A0_0 l0_0.length c0_0, .slice A0_1 l0_1.length c0_1] 26 (0, 0)) (by (with_reducible repeat (first|apply kN|apply kD|apply kA)); exact BK218.out) hb); have n1_ := aM (blk_below (g := gb219) (o := .cells #[.slice A1_0 l1_0.length c1_0, .slice A1_1 l1_1.length c1_1] 26 (0, 0)) (by (with_reducible repeat (first|apply kN|apply kD|apply kA)); exact BK219.out) hb); have n2_ := aM (blk_below (g := gb220) (o := .cells #[.slice A2_0 l2_0.length c2_0, .slice A2_1 l2_1.length c2_1] 26 (0, 0)) (by (with_reducible repeat (first|apply kN|apply kD|apply kA)); exact BK220.out) hb); have n3_ := aM (below_step (by repeat (first | (with_reducible first|exact HB.out|apply bA|apply bN|apply bD|refine bS ?_ GE218.out|refine bS ?_ GE219.out|refine bS ?_ GE220.out)|exact HB.out)) hb); have n4_ := aM (hbox); have n5_ := aM ((by rw [hg]; exact (below_size (by repeat (first | (with_reducible first|exact HB.out|apply bA|apply bN|apply bD|refine bS ?_ GE218.out|refine bS ?_ GE219.out|refine bS ?_ GE220.out)|exact HB.out))) : w.heap.size ≤ gb221)); have n6_ := aM ((by rw [hg]; exact (below_size (by repeat (first | (with_reducible first|exact HB.out|apply bA|apply bN|apply bD|refine bS ?_ GE218.out|refine bS ?_ GE219.out|refine bS ?_ GE220.out)|exact HB.out))) : w.heap.size ≤ gb221)); have n7_ := aM ((by rw [hg]; exact Nat.ne_of_lt (blk_lt (g := gb218) (o := .cells #[.slice A0_0 l0_0.length c0_0, .slice A0_1 l0_1.length c0_1] 26 (0, 0)) (by (with_reducible repeat (first|apply kN|apply kD|apply kA)); exact BK218.out)) : gb218 ≠ gb221)); have n8_ := aM ((by rw [hg]; exact Nat.ne_of_gt (blk_lt (g := gb218) (o := .cells #[.slice A0_0 l0_0.length c0_0, .slice A0_1 l0_1.length c0_1] 26 (0, 0)) (by (with_reducible repeat (first|apply kN|apply kD|apply kA)); exact BK218.out)) : gb221 ≠ gb218)); have n9_ := aM ((by rw [hg]; exact Nat.ne_of_lt (blk_lt (g := gb219) (o := .cells #[.slice A1_0 l1_0.length c1_0, .slice A1_1 l1_1.length c1_1] 26 (0, 0)) (by (with_reducible repeat (first|apply kN|apply kD|apply kA)); exact BK219.out)) : gb219 ≠ gb221)); have n10_ := aM ((by rw [hg]; exact Nat.ne_of_gt (blk_lt (g := gb219) (o := .cells #[.slice A1_0 l1_0.length c1_0, .slice A1_1 l1_1.length c1_1] 26 (0, 0)) (by (with_reducible repeat (first|apply kN|apply kD|apply kA)); exact BK219.out)) : gb221 ≠ gb219)); have n11_ := aM ((by rw [hg]; exact Nat.ne_of_lt (blk_lt (g := gb220) (o := .cells #[.slice A2_0 l2_0.length c2_0, .slice A2_1 l2_1.length c2_1] 26 (0, 0)) (by (with_reducible repeat (first|apply kN|apply kD|apply kA)); exact BK220.out)) : gb220 ≠ gb221)); have n12_ := aM ((by rw [hg]; exact Nat.ne_of_gt (blk_lt (g := gb220) (o := .cells #[.slice A2_0 l2_0.length c2_0, .slice A2_1 l2_1.length c2_1] 26 (0, 0)) (by (with_reducible repeat (first|apply kN|apply kD|apply kA)); exact BK220.out)) : gb221 ≠ gb220)); clear BK218; clear BK219; clear BK220; clear HB; have BK218 := n0_; have BK219 := n1_; have BK220 := n2_; have HB := n3_; have BK221 := n4_; have GW221 := n5_; have GE221 := n6_; have NB218_221 := n7_; have NB221_218 := n8_; have NB219_221 := n9_; have NB221_219 := n10_; have NB220_221 := n11_; have NB221_220 := n12_; clear n0_ n1_ n2_ n3_ n4_ n5_ n6_ n7_ n8_ n9_ n10_ n11_ n12_; clear hb hbox hg) | ((with_reducible refine gate_dst (N := 8) rfl ?_); refine box_event ?hg (N := 8) ?hd (cs := #[.slice none 0 0, .slice none 0 0, .slice none 0 0, .slice none 0 0, .slice none 0 0, .slice none 0 0]) (t := 39) ?hr ?_; (case hd => rfl); (case hg => rfl); (case hr => first | (go_simp; done) | (go_simp; rfl)); intro gb222 hg w10 hbox hb; have n0_ := aM (blk_below (g := gb218) (o := .cells #[.slice A0_0 l0_0.length c0_0, .slice A0_1 l0_1.length c0_1] 26 (0, 0)) (by (with_reducible repeat (first|apply kN|apply kD|apply kA)); exact BK218.out) hb); have n1_ := aM (blk_below (g := gb219) (o := .cells #[.slice A1_0 l1_0.length c1_0, .slice A1_1 l1_1.length c1_1] 26 (0, 0)) (by (with_reducible repeat (first|apply kN|apply kD|apply kA)); exact BK219.out) hb); have n2_ := aM (blk_below (g := gb220) (o := .cells #[.slice A2_0 l2_0.length c2_0, .slice A2_1 l2_1.length c2_1] 26 (0, 0)) (by (with_reducible repeat (first|apply kN|apply kD|apply kA)); exact BK220.out) hb); have n3_ := aM (blk_below (g := gb221) (o := .cells #[.slice A3_0 l3_0.length c3_0, .slice A3_1 l3_1.length c3_1] 26 (0, 0)) (by (with_reducible repeat (first|apply kN|apply kD|apply kA)); exact BK221.out) hb); have n4_ := aM (below_step (by repeat (first | (with_reducible first|exact HB.out|apply bA|apply bN|apply bD|refine bS ?_ GE218.out|refine bS ?_ GE219.out|refine bS ?_ GE220.out|refine bS ?_ GE221.out)|exact HB.out)) hb); have n5_ := aM (hbox); have n6_ := aM ((by rw [hg]; exact (below_size (by repeat (first | (with_reducible first|exact HB.out|apply bA|apply bN|apply bD|refine bS ?_ GE218.out|refine bS ?_ GE219.out|refine bS ?_ GE220.out|refine bS ?_ GE221.out)|exact HB.out))) : w.heap.size ≤ gb222)); have n7_ := aM ((by rw [hg]; exact (below_size (by repeat (first | (with_reducible first|exact HB.out|apply bA|apply bN|apply bD|refine bS ?_ GE218.out|refine bS ?_ GE219.out|refine bS ?_ GE220.out|refine bS ?_ GE221.out)|exact HB.out))) : w.heap.size ≤ gb222)); have n8_ := aM ((by rw [hg]; exact Nat.ne_of_lt (blk_lt (g := gb218) (o := .cells #[.slice A0_0 l0_0.length c0_0, .slice A0_1 l0_1.length c0_1] 26 (0, 0)) (by (with_reducible repeat (first|apply kN|apply kD|apply kA)); exact BK218.out)) : gb218 ≠ gb222)); have n9_ := aM ((by rw [hg]; exact Nat.ne_of_gt (blk_lt (g := gb218) (o := .cells #[.slice A0_0 l0_0.length c0_0, .slice A0_1 l0_1.length c0_1] 26 (0, 0)) (by (with_reducible repeat (first|apply kN|apply kD|apply kA)); exact BK218.out)) : gb222 ≠ gb218)); have n10_ := aM ((by rw [hg]; exact Nat.ne_of_lt (blk_lt (g := gb219) (o := .cells #[.slice A1_0 l1_0.length c1_0, .slice A1_1 l1_1.length c1_1] 26 (0, 0)) (by (with_reducible repeat (first|apply kN|apply kD|apply kA)); exact BK219.out)) : gb219 ≠ gb222)); have n11_ := aM ((by rw [hg]; exact Nat.ne_of_gt (blk_lt (g := gb219) (o := .cells #[.slice A1_0 l1_0.length c1_0, .slice A1_1 l1_1.length c1_1] 26 (0, 0)) (by (with_reducible repeat (first|apply kN|apply kD|apply kA)); exact BK219.out)) : gb222 ≠ gb219)); have n12_ := aM ((by rw [hg]; exact Nat.ne_of_lt (blk_lt (g := gb220) (o := .cells #[.slice A2_0 l2_0.length c2_0, .slice A2_1 l2_1.length c2_1] 26 (0, 0)) (by (with_reducible repeat (first|apply kN|apply kD|apply kA)); exact BK220.out)) : gb220 ≠ gb222)); have n13_ := aM ((by rw [hg]; exact Nat.ne_of_gt (blk_lt (g := gb220) (o := .cells #[.slice A2_0 l2_0.length c2_0, .slice A2_1 l2_1.length c2_1] 26 (0, 0)) (by (with_reducible repeat (first|apply kN|apply kD|apply kA)); exact BK220.out)) : gb222 ≠ gb220)); have n14_ := aM ((by rw [hg]; exact Nat.ne_of_lt (blk_lt (g := gb221) (o := .cells #[.slice A3_0 l3_0.length c3_0, .slice A3_1 l3_1.length c3_1] 26 (0, 0)) (by (with_reducible repeat (first|apply kN|apply kD|apply kA)); exact BK221.out)) : gb221 ≠ gb222)); have n15_ := aM ((by rw [hg]; exact Nat.ne_of_gt (blk_lt (g := gb221) (o := .cells #[.slice A3_0 l3_0.length c3_0, .slice A3_1 l3_1.length c3_1] 26 (0, 0)) (by (with_reducible repeat (first|apply kN|apply kD|apply kA)); exact BK221.out)) : gb222 ≠ gb221)); clear BK218; clear BK219; clear BK220; clear BK221; clear HB; have BK218 := n0_; have BK219 := n1_; have BK220 := n2_; have BK221 := n3_; have HB := n4_; have BK222 := n5_; have GW222 := n6_; have GE222 := n7_; have NB218_222 := n8_; have NB222_218 := n9_; have NB219_222 := n10_; have NB222_219 := n11_; have NB220_222 := n12_; have NB222_220 := n13_; have NB221_222 := n14_; have NB222_221 := n15_; clear n0_ n1_ n2_ n3_ n4_ n5_ n6_ n7_ n8_ n9_ n10_ n11_ n12_ n13_ n14_ n15_; clear hb hbox hg))
 (try simp only [Act.put, List.setIfInBounds_toArray, List.set_cons_zero, List.set_cons_succ])
 go_cut [29] (fun v29 wc => ∃ (kq : Nat) (x29_4 : Bool), v29 = .bool x29_4 ∧ Aside0 (dense_Back.j0 kq x29_4 l0_0 l0_1 l2_0 l2_1 l3_0 l3_1 = some (r1, r2, r3, r4, r5, r6, r7)) ∧ Aside0 (kq ≤ k) ∧ Aside0 (wc.heap[gb218]? = some (.cells #[(.slice A0_0 l0_0.length c0_0), (.slice A0_1 l0_1.length c0_1)] 26 (0, 0))) ∧ Aside0 (wc.heap[gb219]? = some (.cells #[(.slice A1_0 l1_0.length c1_0), (.slice A1_1 l1_1.length c1_1)] 26 (0, 0))) ∧ Aside0 (wc.heap[gb220]? = some (.cells #[(.slice A2_0 l2_0.length c2_0), (.slice A2_1 l2_1.length c2_1)] 26 (0, 0))) ∧ Aside0 (wc.heap[gb221]? = some (.cells #[(.slice A3_0 l3_0.length c3_0), (.slice A3_1 l3_1.length c3_1)] 26 (0, 0))) ∧ Aside0 (wc.heap[gb222]? = some (.cells #[(.slice none 0 0), (.slice none 0 0), (.slice none 0 0), (.slice none 0 0), (.slice none 0 0), (.slice none 0 0)] 39 (0, 0))) ∧ Aside0 (Below w.heap.size w wc))
 case first =>
  have H := HC5.out
  clear HC5
  replace H := Option.bind_eq_some_iff.mp H
  obtain ⟨t223, A110, H⟩ := H
  replace H : (if t223 = true then (if 0 < (l0_0.length : Int) then ((dense_line.f k l3_0 l3_1 (rd l0_0 0)).bind fun t225 => (dense_Back.j0 k (!t225) l0_0 l0_1 l2_0 l2_1 l3_0 l3_1)) else (none)) else (dense_Back.j0 k true l0_0 l0_1 l2_0 l2_1 l3_0 l3_1)) = some (r1, r2, r3, r4, r5, r6, r7) := H
  have A11 := Aside0.mk A110
  clear A110
  by_cases c12 : t223 = true
  ·subst c12
   have H1 : (if 0 < (l0_0.length : Int) then ((dense_line.f k l3_0 l3_1 (rd l0_0 0)).bind fun t225 => (dense_Back.j0 k (!t225) l0_0 l0_1 l2_0 l2_1 l3_0 l3_1)) else (none)) = some (r1, r2, r3, r4, r5, r6, r7) := by rw [if_pos rfl] at H; exact H
   clear H
   have H := H1
   clear H1
   by_cases c13 : 0 < (l0_0.length : Int)
   ·rw [if_pos c13] at H
    have c13b0 : decide (0 < (l0_0.length : Int)) = true := decide_eq_true c13
    have c13b1 : decide (0 < l0_0.length) = true := decide_eq_true (by omega)
    clear c13
    (first | rw [c13b0] | (simp only [i64_w, i32_w]; rw [c13b0]) | skip)
    replace H := Option.bind_eq_some_iff.mp H
    obtain ⟨t225, A140, H⟩ := H
    replace H : (dense_Back.j0 k (!t225) l0_0 l0_1 l2_0 l2_1 l3_0 l3_1) = some (r1, r2, r3, r4, r5, r6, r7) := H
    have A14 := Aside0.mk A140
    clear A140
    as_aux_lemma =>
     have H' := Aside0.mk H
     clear H
     try go_wp2
     have n0_ := aM (blk_drew BK218.out)
     have n1_ := aM (blk_drew BK219.out)
     have n2_ := aM (blk_drew BK220.out)
     have n3_ := aM (blk_drew BK221.out)
     have n4_ := aM (blk_drew BK222.out)
     have n5_ := aM (below_drew1 HB.out)
     clear BK218
     clear BK219
     clear BK220
     clear BK221
     clear BK222
     clear HB
     have BK218 := n0_
     have BK219 := n1_
     have BK220 := n2_
     have BK221 := n3_
     have BK222 := n4_
     have HB := n5_
     clear n0_ n1_ n2_ n3_ n4_ n5_
     have p224 : 0 ≤ (0 : Int) := (by omega)
     have q224 : 0 < (l0_0.length : Int) := of_decide_eq_true (by first | (with_reducible assumption) | assumption)
     obtain ⟨ad224, e224, hx224_0⟩ := Kd.at_int HR0_0.out 0 p224 q224
     have hw224_0 := hx224_0
     (try rw [show ((0 : Int)).toNat = 0 from rfl] at hw224_0)
     (try rw [show 0 * 1 = 0 from rfl] at hw224_0)
     (try rw [Addr.add_zero'] at hw224_0)
     cases e224
     have qi224 : (0 < l0_0.length) = True := eq_true (by omega)
     (try rw [show ((0 : Int)).toNat = 0 from rfl] at hx224_0)
     (try rw [Addr.add_zero'] at hx224_0)
     replace hx224_0 := (HB.out.cell (World.block_lt_of_cell? w _ hx224_0)).trans hx224_0
     replace p224 := eq_true p224
     replace q224 := eq_true q224
     refine start_ (n := 14) (S := fun w' => w'.cell? ⟨gb218, 0, none⟩ = some (.slice (some ad224) l0_0.length c0_0) ∧ w'.cell? ⟨gb218, 1, none⟩ = some (.slice A0_1 l0_1.length c0_1) ∧ w'.cell? ⟨gb219, 0, none⟩ = some (.slice A1_0 l1_0.length c1_0) ∧ w'.cell? ⟨gb219, 1, none⟩ = some (.slice A1_1 l1_1.length c1_1) ∧ w'.cell? ⟨gb220, 0, none⟩ = some (.slice A2_0 l2_0.length c2_0) ∧ w'.cell? ⟨gb220, 1, none⟩ = some (.slice A2_1 l2_1.length c2_1) ∧ w'.cell? ⟨gb221, 0, none⟩ = some (.slice A3_0 l3_0.length c3_0) ∧ w'.cell? ⟨gb221, 1, none⟩ = some (.slice A3_1 l3_1.length c3_1) ∧ w'.cell? ad224 = some (.int .i64 (rd l0_0 0))) (ds := []) #[false, false, false, false, false, false, false, false, false, false, false, false, false, false] (by kernel_rfl) rfl rfl ⟨(blk_cell BK218.out 0).trans rfl, (blk_cell BK218.out 1).trans rfl, (blk_cell BK219.out 0).trans rfl, (blk_cell BK219.out 1).trans rfl, (blk_cell BK220.out 0).trans rfl, (blk_cell BK220.out 1).trans rfl, (blk_cell BK221.out 0).trans rfl, (blk_cell BK221.out 1).trans rfl, ((HB.out.cell (World.block_lt_of_cell? w _ hw224_0)).trans hw224_0)⟩ (fun hHeld => ?_); refine with_tabW dense_Back.tab1 dense_Back.bits1 (fun HT_ HW_ => ?_)
     generalize w10.drew = w15 at BK218 BK219 BK220 BK221 BK222 HB hx224_0 hHeld ⊢
     refine take_ (i := 0) (N := some 16) (v := ?_) (a' := ?_) #[true, false, false, false, false, false, false, false, false, false, false, false, false, false] rfl rfl (take_ofW HT_.out HW_.out (by kernel_rfl)) (fun _ _ _ h => h) (Or.inl ⟨by rfl, ?_⟩) hHeld ?_ ?_
     rotate_left
     ·rintro w' ⟨s0, s1, s2, s3, s4, s5, s6, s7, s8⟩
      go_simp
      with_reducible rfl
     rotate_left
     ·simp only [Act.put, List.setIfInBounds_toArray, List.set_cons_zero, List.set_cons_succ, i64_w, i32_w]
      rfl
     refine take_ (i := 1) (N := some 17) (v := ?_) (a' := ?_) #[true, true, false, false, false, false, false, false, false, false, false, false, false, false] rfl rfl (take_ofW HT_.out HW_.out (by kernel_rfl)) (fun _ _ _ h => h) (Or.inl ⟨by rfl, ?_⟩) hHeld ?_ ?_
     rotate_left
     ·rintro w' ⟨s0, s1, s2, s3, s4, s5, s6, s7, s8⟩
      go_simp
      with_reducible rfl
     rotate_left
     ·simp only [Act.put, List.setIfInBounds_toArray, List.set_cons_zero, List.set_cons_succ, i64_w, i32_w]
      rfl
     refine take_ (i := 2) (N := some 18) (v := ?_) (a' := ?_) #[true, true, true, false, false, false, false, false, false, false, false, false, false, false] rfl rfl (take_ofW HT_.out HW_.out (by kernel_rfl)) (fun _ _ _ h => h) (Or.inl ⟨by rfl, ?_⟩) hHeld ?_ ?_
     rotate_left
     ·rintro w' ⟨s0, s1, s2, s3, s4, s5, s6, s7, s8⟩
      go_simp
      with_reducible rfl
     rotate_left
     ·simp only [Act.put, List.setIfInBounds_toArray, List.set_cons_zero, List.set_cons_succ, i64_w, i32_w]
      rfl
     refine one_ (i := 3) (N := some 19) #[true, true, true, true, false, false, false, false, false, false, false, false, false, false] rfl rfl (one_of HT_.out (by kernel_rfl)) (by decide) (fun K hK => ?_)
     refine goes_ Try.func27 (by kernel_rfl) rfl #[.agg #[.slice (some ad224) l0_0.length c0_0, .slice A0_1 l0_1.length c0_1], .agg #[.slice A1_0 l1_0.length c1_0, .slice A1_1 l1_1.length c1_1], .agg #[.slice A2_0 l2_0.length c2_0, .slice A2_1 l2_1.length c2_1]] (by rfl) rfl rfl (by (try simp only [List.map_toArray, List.map_cons, List.map_nil]); first | done | rfl | (simp only [List.length_drop, List.length_take]; rfl)) ?_
     with_reducible refine (dense_fits.calls k _ _ l0_0 _ _ l0_1 _ _ l1_0 _ _ l1_1 _ _ l2_0 _ _ l2_1 true _ ?side1 ?side2 ?side3 ?side4 ?side5 ?side6 ?side7 ?side8 ?side9 ?side10 ?side11 ?side12 A11.out).mono ?_
     (case side1 => repeat (first|exact (Kd.C_below HR0_0.out HB.out) | with_reducible first|apply cA|apply cN|apply cD))
     (case side2 => exact HC0_0.out)
     (case side3 => repeat (first|exact (Kd.C_below HR0_1.out HB.out) | with_reducible first|apply cA|apply cN|apply cD))
     (case side4 => exact HC0_1.out)
     (case side5 => repeat (first|exact (Kd.C_below HR1_0.out HB.out) | with_reducible first|apply cA|apply cN|apply cD))
     (case side6 => exact HC1_0.out)
     (case side7 => repeat (first|exact (Kd.C_below HR1_1.out HB.out) | with_reducible first|apply cA|apply cN|apply cD))
     (case side8 => exact HC1_1.out)
     (case side9 => repeat (first|exact (Kd.C_below HR2_0.out HB.out) | with_reducible first|apply cA|apply cN|apply cD))
     (case side10 => exact HC2_0.out)
     (case side11 => repeat (first|exact (Kd.C_below HR2_1.out HB.out) | with_reducible first|apply cA|apply cN|apply cD))
     (case side12 => exact HC2_1.out)
     rintro e w16 ⟨rfl, hb⟩
     refine ⟨_, rfl, ?_⟩
     have n0_ := aM (blk_below (g := gb218) (o := .cells #[.slice (some ad224) l0_0.length c0_0, .slice A0_1 l0_1.length c0_1] 26 (0, 0)) (by (with_reducible repeat (first|apply kN|apply kD|apply kA)); exact BK218.out) hb)
     have n1_ := aM (blk_below (g := gb219) (o := .cells #[.slice A1_0 l1_0.length c1_0, .slice A1_1 l1_1.length c1_1] 26 (0, 0)) (by (with_reducible repeat (first|apply kN|apply kD|apply kA)); exact BK219.out) hb)
     have n2_ := aM (blk_below (g := gb220) (o := .cells #[.slice A2_0 l2_0.length c2_0, .slice A2_1 l2_1.length c2_1] 26 (0, 0)) (by (with_reducible repeat (first|apply kN|apply kD|apply kA)); exact BK220.out) hb)
     have n3_ := aM (blk_below (g := gb221) (o := .cells #[.slice A3_0 l3_0.length c3_0, .slice A3_1 l3_1.length c3_1] 26 (0, 0)) (by (with_reducible repeat (first|apply kN|apply kD|apply kA)); exact BK221.out) hb)
     have n4_ := aM (blk_below (g := gb222) (o := .cells #[.slice none 0 0, .slice none 0 0, .slice none 0 0, .slice none 0 0, .slice none 0 0, .slice none 0 0] 39 (0, 0)) (by (with_reducible repeat (first|apply kN|apply kD|apply kA)); exact BK222.out) hb)
     have n5_ := aM (below_step (by repeat (first | (with_reducible first|exact HB.out|apply bA|apply bN|apply bD|refine bS ?_ GE218.out|refine bS ?_ GE219.out|refine bS ?_ GE220.out|refine bS ?_ GE221.out|refine bS ?_ GE222.out)|exact HB.out)) hb)
     clear BK218
     clear BK219
     clear BK220
     clear BK221
     clear BK222
     clear HB
     have BK218 := n0_
     have BK219 := n1_
     have BK220 := n2_
     have BK221 := n3_
     have BK222 := n4_
     have HB := n5_
     clear n0_ n1_ n2_ n3_ n4_ n5_
     (try clear hb)
     skip
     (try clear hk)
     skip
     refine hK.out _ _ ⟨(blk_cell BK218.out 0).trans rfl, (blk_cell BK218.out 1).trans rfl, (blk_cell BK219.out 0).trans rfl, (blk_cell BK219.out 1).trans rfl, (blk_cell BK220.out 0).trans rfl, (blk_cell BK220.out 1).trans rfl, (blk_cell BK221.out 0).trans rfl, (blk_cell BK221.out 1).trans rfl, ((HB.out.cell (World.block_lt_of_cell? w _ hw224_0)).trans hw224_0)⟩ (fun hHeld => ?_)
     clear hK K
     refine norm_ (a' := ?_) ?_ ?_
     rotate_left
     ·show Act.put _ (some 19) _ = _
      simp only [Act.put, List.setIfInBounds_toArray, List.set_cons_zero, List.set_cons_succ, i64_w, i32_w]
      rfl
     refine pure_ (i := 4) (N := some 20) (v := ?_) (a' := ?_) #[true, true, true, true, true, false, false, false, false, false, false, false, false, false] rfl rfl (any_of HT_.out (by kernel_rfl)) (fun _ _ _ h => h) (Or.inl ⟨by rfl, ?_⟩) ?_ ?_
     rotate_left
     ·intro w'
      go_simp
      with_reducible rfl
     rotate_left
     ·simp only [Act.put, List.setIfInBounds_toArray, List.set_cons_zero, List.set_cons_succ, i64_w, i32_w]
      rfl
     refine pure_ (i := 5) (N := some 21) (v := ?_) (a' := ?_) #[true, true, true, true, true, true, false, false, false, false, false, false, false, false] rfl rfl (any_of HT_.out (by kernel_rfl)) (fun _ _ _ h => h) (Or.inl ⟨by rfl, ?_⟩) ?_ ?_
     rotate_left
     ·intro w'
      go_simp
      with_reducible rfl
     rotate_left
     ·simp only [Act.put, List.setIfInBounds_toArray, List.set_cons_zero, List.set_cons_succ, i64_w, i32_w]
      rfl
     refine pure_ (i := 7) (N := some 23) (v := ?_) (a' := ?_) #[true, true, true, true, true, true, false, true, false, false, false, false, false, false] rfl rfl (any_of HT_.out (by kernel_rfl)) (fun _ _ _ h => h) (Or.inl ⟨by rfl, ?_⟩) ?_ ?_
     rotate_left
     ·intro w'
      go_simp
      with_reducible rfl
     rotate_left
     ·simp only [Act.put, List.setIfInBounds_toArray, List.set_cons_zero, List.set_cons_succ, i64_w, i32_w]
      rfl
     refine take_ (i := 6) (N := some 22) (v := ?_) (a' := ?_) #[true, true, true, true, true, true, true, true, false, false, false, false, false, false] rfl rfl (take_ofW HT_.out HW_.out (by kernel_rfl)) (fun _ _ _ h => h) (Or.inl ⟨by rfl, ?_⟩) hHeld ?_ ?_
     rotate_left
     ·rintro w' ⟨s0, s1, s2, s3, s4, s5, s6, s7, s8⟩
      go_simp
      with_reducible rfl
     rotate_left
     ·simp only [Act.put, List.setIfInBounds_toArray, List.set_cons_zero, List.set_cons_succ, i64_w, i32_w]
      rfl
     refine take_ (i := 8) (N := some 24) (v := ?_) (a' := ?_) #[true, true, true, true, true, true, true, true, true, false, false, false, false, false] rfl rfl (take_ofW HT_.out HW_.out (by kernel_rfl)) (fun _ _ _ h => h) (Or.inl ⟨by rfl, ?_⟩) hHeld ?_ ?_
     rotate_left
     ·rintro w' ⟨s0, s1, s2, s3, s4, s5, s6, s7, s8⟩
      go_simp
      with_reducible rfl
     rotate_left
     ·simp only [Act.put, List.setIfInBounds_toArray, List.set_cons_zero, List.set_cons_succ, i64_w, i32_w]
      rfl
     refine pure_ (i := 9) (N := some 25) (v := ?_) (a' := ?_) #[true, true, true, true, true, true, true, true, true, true, false, false, false, false] rfl rfl (any_of HT_.out (by kernel_rfl)) (fun _ _ _ h => h) (Or.inl ⟨by rfl, ?_⟩) ?_ ?_
     rotate_left
     ·intro w'
      go_simp
      with_reducible rfl
     rotate_left
     ·simp only [Act.put, List.setIfInBounds_toArray, List.set_cons_zero, List.set_cons_succ, i64_w, i32_w]
      rfl
     refine take_ (i := 10) (N := some 26) (v := ?_) (a' := ?_) #[true, true, true, true, true, true, true, true, true, true, true, false, false, false] rfl rfl (take_ofW HT_.out HW_.out (by kernel_rfl)) (fun _ _ _ h => h) (Or.inl ⟨by rfl, ?_⟩) hHeld ?_ ?_
     rotate_left
     ·rintro w' ⟨s0, s1, s2, s3, s4, s5, s6, s7, s8⟩
      go_simp
      with_reducible rfl
     rotate_left
     ·simp only [Act.put, List.setIfInBounds_toArray, List.set_cons_zero, List.set_cons_succ, i64_w, i32_w]
      rfl
     refine one_ (i := 11) (N := some 27) #[true, true, true, true, true, true, true, true, true, true, true, true, false, false] rfl rfl (one_of HT_.out (by kernel_rfl)) (by decide) (fun K hK => ?_)
     refine goes_ Try.func32 (by kernel_rfl) rfl #[.agg #[.slice A3_0 l3_0.length c3_0, .slice A3_1 l3_1.length c3_1], .int .i64 (rd l0_0 0)] (by rfl) rfl rfl (by (try simp only [List.map_toArray, List.map_cons, List.map_nil]); first | done | rfl | (simp only [List.length_drop, List.length_take]; rfl)) ?_
     with_reducible refine (dense_line.calls k _ _ l3_0 _ _ l3_1 (rd l0_0 0) t225 _ ?side1 ?side2 ?side3 ?side4 A14.out).mono ?_
     (case side1 => repeat (first|exact (Kd.C_below HR3_0.out HB.out) | with_reducible first|apply cA|apply cN|apply cD))
     (case side2 => exact HC3_0.out)
     (case side3 => repeat (first|exact (Kd.C_below HR3_1.out HB.out) | with_reducible first|apply cA|apply cN|apply cD))
     (case side4 => exact HC3_1.out)
     rintro e w17 ⟨rfl, hb⟩
     refine ⟨_, rfl, ?_⟩
     have n0_ := aM (blk_below (g := gb218) (o := .cells #[.slice (some ad224) l0_0.length c0_0, .slice A0_1 l0_1.length c0_1] 26 (0, 0)) (by (with_reducible repeat (first|apply kN|apply kD|apply kA)); exact BK218.out) hb)
     have n1_ := aM (blk_below (g := gb219) (o := .cells #[.slice A1_0 l1_0.length c1_0, .slice A1_1 l1_1.length c1_1] 26 (0, 0)) (by (with_reducible repeat (first|apply kN|apply kD|apply kA)); exact BK219.out) hb)
     have n2_ := aM (blk_below (g := gb220) (o := .cells #[.slice A2_0 l2_0.length c2_0, .slice A2_1 l2_1.length c2_1] 26 (0, 0)) (by (with_reducible repeat (first|apply kN|apply kD|apply kA)); exact BK220.out) hb)
     have n3_ := aM (blk_below (g := gb221) (o := .cells #[.slice A3_0 l3_0.length c3_0, .slice A3_1 l3_1.length c3_1] 26 (0, 0)) (by (with_reducible repeat (first|apply kN|apply kD|apply kA)); exact BK221.out) hb)
     have n4_ := aM (blk_below (g := gb222) (o := .cells #[.slice none 0 0, .slice none 0 0, .slice none 0 0, .slice none 0 0, .slice none 0 0, .slice none 0 0] 39 (0, 0)) (by (with_reducible repeat (first|apply kN|apply kD|apply kA)); exact BK222.out) hb)
     have n5_ := aM (below_step (by repeat (first | (with_reducible first|exact HB.out|apply bA|apply bN|apply bD|refine bS ?_ GE218.out|refine bS ?_ GE219.out|refine bS ?_ GE220.out|refine bS ?_ GE221.out|refine bS ?_ GE222.out)|exact HB.out)) hb)
     clear BK218
     clear BK219
     clear BK220
     clear BK221
     clear BK222
     clear HB
     have BK218 := n0_
     have BK219 := n1_
     have BK220 := n2_
     have BK221 := n3_
     have BK222 := n4_
     have HB := n5_
     clear n0_ n1_ n2_ n3_ n4_ n5_
     (try clear hb)
     skip
     (try clear hk)
     skip
     refine hK.out _ _ ⟨(blk_cell BK218.out 0).trans rfl, (blk_cell BK218.out 1).trans rfl, (blk_cell BK219.out 0).trans rfl, (blk_cell BK219.out 1).trans rfl, (blk_cell BK220.out 0).trans rfl, (blk_cell BK220.out 1).trans rfl, (blk_cell BK221.out 0).trans rfl, (blk_cell BK221.out 1).trans rfl, ((HB.out.cell (World.block_lt_of_cell? w _ hw224_0)).trans hw224_0)⟩ (fun hHeld => ?_)
     clear hK K
     refine norm_ (a' := ?_) ?_ ?_
     rotate_left
     ·show Act.put _ (some 27) _ = _
      simp only [Act.put, List.setIfInBounds_toArray, List.set_cons_zero, List.set_cons_succ, i64_w, i32_w]
      rfl
     refine pure_ (i := 12) (N := some 28) (v := ?_) (a' := ?_) #[true, true, true, true, true, true, true, true, true, true, true, true, true, false] rfl rfl (any_of HT_.out (by kernel_rfl)) (fun _ _ _ h => h) (Or.inl ⟨by rfl, ?_⟩) ?_ ?_
     rotate_left
     ·intro w'
      go_simp
      with_reducible rfl
     rotate_left
     ·simp only [Act.put, List.setIfInBounds_toArray, List.set_cons_zero, List.set_cons_succ, i64_w, i32_w]
      rfl
     refine pure_ (i := 13) (N := some 29) (v := ?_) (a' := ?_) #[true, true, true, true, true, true, true, true, true, true, true, true, true, true] rfl rfl (any_of HT_.out (by kernel_rfl)) (fun _ _ _ h => h) (Or.inl ⟨by rfl, ?_⟩) ?_ ?_
     rotate_left
     ·intro w'
      go_simp
      with_reducible rfl
     rotate_left
     ·simp only [Act.put, List.setIfInBounds_toArray, List.set_cons_zero, List.set_cons_succ, i64_w, i32_w]
      rfl
     refine done_ (done_of HT_.out (by kernel_rfl)) ?_
     try go_wp2
     go_meet
     case rel => exact ⟨_, (!t225), (by first | rfl | (simp; done) | (simp [*]; done)), H', ⟨by first | omega|exact Nat.le_refl _⟩, ⟨by (with_reducible repeat (first|apply kN|apply kD|apply kA)); exact BK218.out⟩, ⟨by (with_reducible repeat (first|apply kN|apply kD|apply kA)); exact BK219.out⟩, ⟨by (with_reducible repeat (first|apply kN|apply kD|apply kA)); exact BK220.out⟩, ⟨by (with_reducible repeat (first|apply kN|apply kD|apply kA)); exact BK221.out⟩, ⟨by (with_reducible repeat (first|apply kN|apply kD|apply kA)); exact BK222.out⟩, ⟨by repeat (first | (with_reducible first|exact HB.out|apply bA|apply bN|apply bD|refine bS ?_ GE218.out|refine bS ?_ GE219.out|refine bS ?_ GE220.out|refine bS ?_ GE221.out|refine bS ?_ GE222.out)|exact HB.out)⟩⟩
   ·rw [if_neg c13] at H
    exact absurd H (by simp)
  ·replace c12 := Bool.eq_false_iff.mpr c12
   subst c12
   have H1 : (dense_Back.j0 k true l0_0 l0_1 l2_0 l2_1 l3_0 l3_1) = some (r1, r2, r3, r4, r5, r6, r7) := by rw [if_neg (show ¬ (false = true) by decide)] at H; exact H
   clear H
   have H := H1
   clear H1
   as_aux_lemma =>
    have H' := Aside0.mk H
    clear H
    try go_wp2
    have n0_ := aM (blk_drew BK218.out)
    have n1_ := aM (blk_drew BK219.out)
    have n2_ := aM (blk_drew BK220.out)
    have n3_ := aM (blk_drew BK221.out)
    have n4_ := aM (blk_drew BK222.out)
    have n5_ := aM (below_drew1 HB.out)
    clear BK218
    clear BK219
    clear BK220
    clear BK221
    clear BK222
    clear HB
    have BK218 := n0_
    have BK219 := n1_
    have BK220 := n2_
    have BK221 := n3_
    have BK222 := n4_
    have HB := n5_
    clear n0_ n1_ n2_ n3_ n4_ n5_
    refine start_ (n := 14) (S := fun w' => w'.cell? ⟨gb218, 0, none⟩ = some (.slice A0_0 l0_0.length c0_0) ∧ w'.cell? ⟨gb218, 1, none⟩ = some (.slice A0_1 l0_1.length c0_1) ∧ w'.cell? ⟨gb219, 0, none⟩ = some (.slice A1_0 l1_0.length c1_0) ∧ w'.cell? ⟨gb219, 1, none⟩ = some (.slice A1_1 l1_1.length c1_1) ∧ w'.cell? ⟨gb220, 0, none⟩ = some (.slice A2_0 l2_0.length c2_0) ∧ w'.cell? ⟨gb220, 1, none⟩ = some (.slice A2_1 l2_1.length c2_1)) (ds := []) #[false, false, false, false, false, false, false, false, false, false, false, false, false, false] (by kernel_rfl) rfl rfl ⟨(blk_cell BK218.out 0).trans rfl, (blk_cell BK218.out 1).trans rfl, (blk_cell BK219.out 0).trans rfl, (blk_cell BK219.out 1).trans rfl, (blk_cell BK220.out 0).trans rfl, (blk_cell BK220.out 1).trans rfl⟩ (fun hHeld => ?_); refine with_tabW dense_Back.tab1 dense_Back.bits1 (fun HT_ HW_ => ?_)
    generalize w10.drew = w18 at BK218 BK219 BK220 BK221 BK222 HB hHeld ⊢
    refine take_ (i := 0) (N := some 16) (v := ?_) (a' := ?_) #[true, false, false, false, false, false, false, false, false, false, false, false, false, false] rfl rfl (take_ofW HT_.out HW_.out (by kernel_rfl)) (fun _ _ _ h => h) (Or.inl ⟨by rfl, ?_⟩) hHeld ?_ ?_
    rotate_left
    ·rintro w' ⟨s0, s1, s2, s3, s4, s5⟩
     go_simp
     with_reducible rfl
    rotate_left
    ·simp only [Act.put, List.setIfInBounds_toArray, List.set_cons_zero, List.set_cons_succ, i64_w, i32_w]
     rfl
    refine take_ (i := 1) (N := some 17) (v := ?_) (a' := ?_) #[true, true, false, false, false, false, false, false, false, false, false, false, false, false] rfl rfl (take_ofW HT_.out HW_.out (by kernel_rfl)) (fun _ _ _ h => h) (Or.inl ⟨by rfl, ?_⟩) hHeld ?_ ?_
    rotate_left
    ·rintro w' ⟨s0, s1, s2, s3, s4, s5⟩
     go_simp
     with_reducible rfl
    rotate_left
    ·simp only [Act.put, List.setIfInBounds_toArray, List.set_cons_zero, List.set_cons_succ, i64_w, i32_w]
     rfl
    refine take_ (i := 2) (N := some 18) (v := ?_) (a' := ?_) #[true, true, true, false, false, false, false, false, false, false, false, false, false, false] rfl rfl (take_ofW HT_.out HW_.out (by kernel_rfl)) (fun _ _ _ h => h) (Or.inl ⟨by rfl, ?_⟩) hHeld ?_ ?_
    rotate_left
    ·rintro w' ⟨s0, s1, s2, s3, s4, s5⟩
     go_simp
     with_reducible rfl
    rotate_left
    ·simp only [Act.put, List.setIfInBounds_toArray, List.set_cons_zero, List.set_cons_succ, i64_w, i32_w]
     rfl
    refine one_ (i := 3) (N := some 19) #[true, true, true, true, false, false, false, false, false, false, false, false, false, false] rfl rfl (one_of HT_.out (by kernel_rfl)) (by decide) (fun K hK => ?_)
    refine goes_ Try.func27 (by kernel_rfl) rfl #[.agg #[.slice A0_0 l0_0.length c0_0, .slice A0_1 l0_1.length c0_1], .agg #[.slice A1_0 l1_0.length c1_0, .slice A1_1 l1_1.length c1_1], .agg #[.slice A2_0 l2_0.length c2_0, .slice A2_1 l2_1.length c2_1]] (by rfl) rfl rfl (by (try simp only [List.map_toArray, List.map_cons, List.map_nil]); first | done | rfl | (simp only [List.length_drop, List.length_take]; rfl)) ?_
    with_reducible refine (dense_fits.calls k _ _ l0_0 _ _ l0_1 _ _ l1_0 _ _ l1_1 _ _ l2_0 _ _ l2_1 false _ ?side1 ?side2 ?side3 ?side4 ?side5 ?side6 ?side7 ?side8 ?side9 ?side10 ?side11 ?side12 A11.out).mono ?_
    (case side1 => repeat (first|exact (Kd.C_below HR0_0.out HB.out) | with_reducible first|apply cA|apply cN|apply cD))
    (case side2 => exact HC0_0.out)
    (case side3 => repeat (first|exact (Kd.C_below HR0_1.out HB.out) | with_reducible first|apply cA|apply cN|apply cD))
    (case side4 => exact HC0_1.out)
    (case side5 => repeat (first|exact (Kd.C_below HR1_0.out HB.out) | with_reducible first|apply cA|apply cN|apply cD))
    (case side6 => exact HC1_0.out)
    (case side7 => repeat (first|exact (Kd.C_below HR1_1.out HB.out) | with_reducible first|apply cA|apply cN|apply cD))
    (case side8 => exact HC1_1.out)
    (case side9 => repeat (first|exact (Kd.C_below HR2_0.out HB.out) | with_reducible first|apply cA|apply cN|apply cD))
    (case side10 => exact HC2_0.out)
    (case side11 => repeat (first|exact (Kd.C_below HR2_1.out HB.out) | with_reducible first|apply cA|apply cN|apply cD))
    (case side12 => exact HC2_1.out)
    rintro e w19 ⟨rfl, hb⟩
    refine ⟨_, rfl, ?_⟩
    have n0_ := aM (blk_below (g := gb218) (o := .cells #[.slice A0_0 l0_0.length c0_0, .slice A0_1 l0_1.length c0_1] 26 (0, 0)) (by (with_reducible repeat (first|apply kN|apply kD|apply kA)); exact BK218.out) hb)
    have n1_ := aM (blk_below (g := gb219) (o := .cells #[.slice A1_0 l1_0.length c1_0, .slice A1_1 l1_1.length c1_1] 26 (0, 0)) (by (with_reducible repeat (first|apply kN|apply kD|apply kA)); exact BK219.out) hb)
    have n2_ := aM (blk_below (g := gb220) (o := .cells #[.slice A2_0 l2_0.length c2_0, .slice A2_1 l2_1.length c2_1] 26 (0, 0)) (by (with_reducible repeat (first|apply kN|apply kD|apply kA)); exact BK220.out) hb)
    have n3_ := aM (blk_below (g := gb221) (o := .cells #[.slice A3_0 l3_0.length c3_0, .slice A3_1 l3_1.length c3_1] 26 (0, 0)) (by (with_reducible repeat (first|apply kN|apply kD|apply kA)); exact BK221.out) hb)
    have n4_ := aM (blk_below (g := gb222) (o := .cells #[.slice none 0 0, .slice none 0 0, .slice none 0 0, .slice none 0 0, .slice none 0 0, .slice none 0 0] 39 (0, 0)) (by (with_reducible repeat (first|apply kN|apply kD|apply kA)); exact BK222.out) hb)
    have n5_ := aM (below_step (by repeat (first | (with_reducible first|exact HB.out|apply bA|apply bN|apply bD|refine bS ?_ GE218.out|refine bS ?_ GE219.out|refine bS ?_ GE220.out|refine bS ?_ GE221.out|refine bS ?_ GE222.out)|exact HB.out)) hb)
    clear BK218
    clear BK219
    clear BK220
    clear BK221
    clear BK222
    clear HB
    have BK218 := n0_
    have BK219 := n1_
    have BK220 := n2_
    have BK221 := n3_
    have BK222 := n4_
    have HB := n5_
    clear n0_ n1_ n2_ n3_ n4_ n5_
    (try clear hb)
    skip
    (try clear hk)
    skip
    refine hK.out _ _ ⟨(blk_cell BK218.out 0).trans rfl, (blk_cell BK218.out 1).trans rfl, (blk_cell BK219.out 0).trans rfl, (blk_cell BK219.out 1).trans rfl, (blk_cell BK220.out 0).trans rfl, (blk_cell BK220.out 1).trans rfl⟩ (fun hHeld => ?_)
    clear hK K
    refine norm_ (a' := ?_) ?_ ?_
    rotate_left
    ·show Act.put _ (some 19) _ = _
     simp only [Act.put, List.setIfInBounds_toArray, List.set_cons_zero, List.set_cons_succ, i64_w, i32_w]
     rfl
    refine pure_ (i := 4) (N := some 20) (v := ?_) (a' := ?_) #[true, true, true, true, true, false, false, false, false, false, false, false, false, false] rfl rfl (any_of HT_.out (by kernel_rfl)) (fun _ _ _ h => h) (Or.inl ⟨by rfl, ?_⟩) ?_ ?_
    rotate_left
    ·intro w'
     go_simp
     with_reducible rfl
    rotate_left
    ·simp only [Act.put, List.setIfInBounds_toArray, List.set_cons_zero, List.set_cons_succ, i64_w, i32_w]
     rfl
    refine pure_ (i := 5) (N := some 21) (v := ?_) (a' := ?_) #[true, true, true, true, true, true, false, false, false, false, false, false, false, false] rfl rfl (any_of HT_.out (by kernel_rfl)) (fun _ _ _ h => h) (Or.inl ⟨by rfl, ?_⟩) ?_ ?_
    rotate_left
    ·intro w'
     go_simp
     with_reducible rfl
    rotate_left
    ·simp only [Act.put, List.setIfInBounds_toArray, List.set_cons_zero, List.set_cons_succ, i64_w, i32_w]
     rfl
    refine pure_ (i := 6) (N := some 22) (v := undef) (a' := ?_) #[true, true, true, true, true, true, true, false, false, false, false, false, false, false] rfl rfl (any_of HT_.out (by kernel_rfl)) (fun _ _ _ h => h) (Or.inr ⟨by rfl, rfl⟩) ?_ ?_
    rotate_left
    ·simp only [Act.put, List.setIfInBounds_toArray, List.set_cons_zero, List.set_cons_succ, i64_w, i32_w]
     rfl
    refine pure_ (i := 7) (N := some 23) (v := undef) (a' := ?_) #[true, true, true, true, true, true, true, true, false, false, false, false, false, false] rfl rfl (any_of HT_.out (by kernel_rfl)) (fun _ _ _ h => h) (Or.inr ⟨by rfl, rfl⟩) ?_ ?_
    rotate_left
    ·simp only [Act.put, List.setIfInBounds_toArray, List.set_cons_zero, List.set_cons_succ, i64_w, i32_w]
     rfl
    refine pure_ (i := 8) (N := some 24) (v := undef) (a' := ?_) #[true, true, true, true, true, true, true, true, true, false, false, false, false, false] rfl rfl (any_of HT_.out (by kernel_rfl)) (fun _ _ _ h => h) (Or.inr ⟨by rfl, rfl⟩) ?_ ?_
    rotate_left
    ·simp only [Act.put, List.setIfInBounds_toArray, List.set_cons_zero, List.set_cons_succ, i64_w, i32_w]
     rfl
    refine pure_ (i := 9) (N := some 25) (v := undef) (a' := ?_) #[true, true, true, true, true, true, true, true, true, true, false, false, false, false] rfl rfl (any_of HT_.out (by kernel_rfl)) (fun _ _ _ h => h) (Or.inr ⟨by rfl, rfl⟩) ?_ ?_
    rotate_left
    ·simp only [Act.put, List.setIfInBounds_toArray, List.set_cons_zero, List.set_cons_succ, i64_w, i32_w]
     rfl
    refine pure_ (i := 10) (N := some 26) (v := undef) (a' := ?_) #[true, true, true, true, true, true, true, true, true, true, true, false, false, false] rfl rfl (any_of HT_.out (by kernel_rfl)) (fun _ _ _ h => h) (Or.inr ⟨by rfl, rfl⟩) ?_ ?_
    rotate_left
    ·simp only [Act.put, List.setIfInBounds_toArray, List.set_cons_zero, List.set_cons_succ, i64_w, i32_w]
     rfl
    refine pure_ (i := 11) (N := some 27) (v := undef) (a' := ?_) #[true, true, true, true, true, true, true, true, true, true, true, true, false, false] rfl rfl (any_of HT_.out (by kernel_rfl)) (fun _ _ _ h => h) (Or.inr ⟨by rfl, rfl⟩) ?_ ?_
    rotate_left
    ·simp only [Act.put, List.setIfInBounds_toArray, List.set_cons_zero, List.set_cons_succ, i64_w, i32_w]
     rfl
    refine pure_ (i := 12) (N := some 28) (v := undef) (a' := ?_) #[true, true, true, true, true, true, true, true, true, true, true, true, true, false] rfl rfl (any_of HT_.out (by kernel_rfl)) (fun _ _ _ h => h) (Or.inr ⟨by rfl, rfl⟩) ?_ ?_
    rotate_left
    ·simp only [Act.put, List.setIfInBounds_toArray, List.set_cons_zero, List.set_cons_succ, i64_w, i32_w]
     rfl
    refine pure_ (i := 13) (N := some 29) (v := ?_) (a' := ?_) #[true, true, true, true, true, true, true, true, true, true, true, true, true, true] rfl rfl (any_of HT_.out (by kernel_rfl)) (fun _ _ _ h => h) (Or.inl ⟨by rfl, ?_⟩) ?_ ?_
    rotate_left
    ·intro w'
     go_simp
     with_reducible rfl
    rotate_left
    ·simp only [Act.put, List.setIfInBounds_toArray, List.set_cons_zero, List.set_cons_succ, i64_w, i32_w]
     rfl
    refine done_ (done_of HT_.out (by kernel_rfl)) ?_
    try go_wp2
    go_meet
    case rel => exact ⟨_, (true), (by first | rfl | (simp; done) | (simp [*]; done)), H', ⟨by first | omega|exact Nat.le_refl _⟩, ⟨by (with_reducible repeat (first|apply kN|apply kD|apply kA)); exact BK218.out⟩, ⟨by (with_reducible repeat (first|apply kN|apply kD|apply kA)); exact BK219.out⟩, ⟨by (with_reducible repeat (first|apply kN|apply kD|apply kA)); exact BK220.out⟩, ⟨by (with_reducible repeat (first|apply kN|apply kD|apply kA)); exact BK221.out⟩, ⟨by (with_reducible repeat (first|apply kN|apply kD|apply kA)); exact BK222.out⟩, ⟨by repeat (first | (with_reducible first|exact HB.out|apply bA|apply bN|apply bD|refine bS ?_ GE218.out|refine bS ?_ GE219.out|refine bS ?_ GE220.out|refine bS ?_ GE221.out|refine bS ?_ GE222.out)|exact HB.out)⟩⟩
 case rest =>
  clear HC5
  (try clear c12); (try clear c13); (try clear c13b0); (try clear c13b1); (try clear hx224_0); (try clear p224); (try clear q224)
  obtain ⟨kq, x29_4, rfl, HA, HJ4, BK218, BK219, BK220, BK221, BK222, HB⟩ := hcut
  cases kq with
  | zero => exact absurd HA.out (by simp [dense_Back.j0])
  | succ kj4 =>
   have H := HA.out
   clear HA
   simp only [dense_Back.j0] at H
   by_cases c20 : x29_4 = true
   ·subst c20
    have H1 : (some (([] : List Int), ([] : List Int), ([] : List Int), ([] : List Int), ([] : List Int), ([] : List Int), 20)) = some (r1, r2, r3, r4, r5, r6, r7) := by rw [if_pos rfl] at H; exact H
    clear H
    have H := H1
    clear H1
    as_aux_lemma =>
     simp only [Option.some.injEq, Prod.mk.injEq] at H
     obtain ⟨rfl, rfl, rfl, rfl, rfl, rfl, rfl⟩ := H
     have hnb21 := NB222_218.out
     have hnc21 := NB218_222.out
     have hnb22 := NB222_219.out
     have hnc22 := NB219_222.out
     have hnb23 := NB222_220.out
     have hnc23 := NB220_222.out
     have hnb24 := NB222_221.out
     have hnc24 := NB221_222.out
     have hcz25_0 : wc.cell? ⟨gb222, 0, none⟩ = some (.slice none 0 0) := (blk_cell BK222.out 0).trans rfl
     have hcz25_1 : wc.cell? ⟨gb222, 1, none⟩ = some (.slice none 0 0) := (blk_cell BK222.out 1).trans rfl
     have hcz25_2 : wc.cell? ⟨gb222, 2, none⟩ = some (.slice none 0 0) := (blk_cell BK222.out 2).trans rfl
     have hcz25_3 : wc.cell? ⟨gb222, 3, none⟩ = some (.slice none 0 0) := (blk_cell BK222.out 3).trans rfl
     have hcz25_4 : wc.cell? ⟨gb222, 4, none⟩ = some (.slice none 0 0) := (blk_cell BK222.out 4).trans rfl
     have hcz25_5 : wc.cell? ⟨gb222, 5, none⟩ = some (.slice none 0 0) := (blk_cell BK222.out 5).trans rfl
     have hfz25_0 := blk_frozen BK222.out 0
     have hfz25_1 := blk_frozen BK222.out 1
     have hfz25_2 := blk_frozen BK222.out 2
     have hfz25_3 := blk_frozen BK222.out 3
     have hfz25_4 := blk_frozen BK222.out 4
     have hfz25_5 := blk_frozen BK222.out 5
     go_wp2
     refine bodyPost_ret (results_ct rfl _ _ gb222 39 #[.slice none 0 0, .slice none 0 0, .slice none 0 0, .slice none 0 0, .slice none 0 0, .slice none 0 0] (0, 0) _ rfl (by (with_reducible repeat (first|apply kN|apply kD|apply kA)); refine blk_put (cs := #[.slice none 0 0, .slice none 0 0, .slice none 0 0, .slice none 0 0, .slice none 0 0, .slice none 0 0]) ?_ 5 _ rfl; (with_reducible repeat (first|apply kN|apply kD|apply kA)); refine blk_put (cs := #[.slice none 0 0, .slice none 0 0, .slice none 0 0, .slice none 0 0, .slice none 0 0, .slice none 0 0]) ?_ 4 _ rfl; (with_reducible repeat (first|apply kN|apply kD|apply kA)); refine blk_put (cs := #[.slice none 0 0, .slice none 0 0, .slice none 0 0, .slice none 0 0, .slice none 0 0, .slice none 0 0]) ?_ 3 _ rfl; (with_reducible repeat (first|apply kN|apply kD|apply kA)); refine blk_put (cs := #[.slice none 0 0, .slice none 0 0, .slice none 0 0, .slice none 0 0, .slice none 0 0, .slice none 0 0]) ?_ 2 _ rfl; (with_reducible repeat (first|apply kN|apply kD|apply kA)); refine blk_put (cs := #[.slice none 0 0, .slice none 0 0, .slice none 0 0, .slice none 0 0, .slice none 0 0, .slice none 0 0]) ?_ 1 _ rfl; (with_reducible repeat (first|apply kN|apply kD|apply kA)); refine blk_put (cs := #[.slice none 0 0, .slice none 0 0, .slice none 0 0, .slice none 0 0, .slice none 0 0, .slice none 0 0]) ?_ 0 _ rfl; (with_reducible repeat (first|apply kN|apply kD|apply kA)); exact BK222.out) Try.underlying39 rfl (by kernel_rfl)) rfl ?_
     exact ⟨_, _, _, _, _, _, by first | rfl | (simp [errW_none, errW_some] <;> rfl) | (simp [*, errW_none, errW_some] <;> rfl), by first|exact Kd.R_nil _ _ _ _ _|exact Kd.N_nil _ _ _ _ _|exact Kd.V_nil _ _ _ _ _|exact Kd.Q_nil _ _ _ _ _|exact Kd.S_nil _ _ _ _ _, by first|exact Kd.R_nil _ _ _ _ _|exact Kd.N_nil _ _ _ _ _|exact Kd.V_nil _ _ _ _ _|exact Kd.Q_nil _ _ _ _ _|exact Kd.S_nil _ _ _ _ _, by first|exact Kd.R_nil _ _ _ _ _|exact Kd.N_nil _ _ _ _ _|exact Kd.V_nil _ _ _ _ _|exact Kd.Q_nil _ _ _ _ _|exact Kd.S_nil _ _ _ _ _, by first|exact Kd.R_nil _ _ _ _ _|exact Kd.N_nil _ _ _ _ _|exact Kd.V_nil _ _ _ _ _|exact Kd.Q_nil _ _ _ _ _|exact Kd.S_nil _ _ _ _ _, by first|exact Kd.R_nil _ _ _ _ _|exact Kd.N_nil _ _ _ _ _|exact Kd.V_nil _ _ _ _ _|exact Kd.Q_nil _ _ _ _ _|exact Kd.S_nil _ _ _ _ _, by first|exact Kd.R_nil _ _ _ _ _|exact Kd.N_nil _ _ _ _ _|exact Kd.V_nil _ _ _ _ _|exact Kd.Q_nil _ _ _ _ _|exact Kd.S_nil _ _ _ _ _, by repeat (first | (with_reducible first|exact HB.out|apply bA|apply bN|apply bD|refine bS ?_ GE218.out|refine bS ?_ GE219.out|refine bS ?_ GE220.out|refine bS ?_ GE221.out|refine bS ?_ GE222.out)|exact HB.out)⟩
   ·replace c20 := Bool.eq_false_iff.mpr c20
    subst c20
    have H1 : ((tensor_Grid_fix_F_Copy.f l0_0 l0_1).bind fun bt226 => ((tensor_Grid_fix_F_Copy.f l3_0 l3_1).bind fun bt232 => ((tensor_Grid_fix_F_Copy.f l2_0 l2_1).bind fun bt238 => (dense_Back.l0 kj4 l3_1 (l3_1.length : Int) 0 l0_0 l0_1 l2_0 l2_1 l3_0 l3_1 bt226.1 bt226.2 bt232.1 bt232.2 bt238.1 bt238.2)))) = some (r1, r2, r3, r4, r5, r6, r7) := by rw [if_neg (show ¬ (false = true) by decide)] at H; exact H
    clear H
    have H := H1
    clear H1
    replace H := Option.bind_eq_some_iff.mp H
    obtain ⟨⟨t226, t229⟩, A260, H⟩ := H
    replace H : ((tensor_Grid_fix_F_Copy.f l3_0 l3_1).bind fun bt232 => ((tensor_Grid_fix_F_Copy.f l2_0 l2_1).bind fun bt238 => (dense_Back.l0 kj4 l3_1 (l3_1.length : Int) 0 l0_0 l0_1 l2_0 l2_1 l3_0 l3_1 t226 t229 bt232.1 bt232.2 bt238.1 bt238.2))) = some (r1, r2, r3, r4, r5, r6, r7) := H
    have A26 := Aside0.mk A260
    clear A260
    replace H := Option.bind_eq_some_iff.mp H
    obtain ⟨⟨t232, t235⟩, A270, H⟩ := H
    replace H : ((tensor_Grid_fix_F_Copy.f l2_0 l2_1).bind fun bt238 => (dense_Back.l0 kj4 l3_1 (l3_1.length : Int) 0 l0_0 l0_1 l2_0 l2_1 l3_0 l3_1 t226 t229 t232 t235 bt238.1 bt238.2)) = some (r1, r2, r3, r4, r5, r6, r7) := H
    have A27 := Aside0.mk A270
    clear A270
    replace H := Option.bind_eq_some_iff.mp H
    obtain ⟨⟨t238, t241⟩, A280, H⟩ := H
    replace H : (dense_Back.l0 kj4 l3_1 (l3_1.length : Int) 0 l0_0 l0_1 l2_0 l2_1 l3_0 l3_1 t226 t229 t232 t235 t238 t241) = some (r1, r2, r3, r4, r5, r6, r7) := H
    have A28 := Aside0.mk A280
    clear A280
    have H' := Aside0.mk H
    clear H
    try go_wp2
    have n0_ := aM (blk_drew BK218.out)
    have n1_ := aM (blk_drew BK219.out)
    have n2_ := aM (blk_drew BK220.out)
    have n3_ := aM (blk_drew BK221.out)
    have n4_ := aM (blk_drew BK222.out)
    have n5_ := aM (below_drew1 HB.out)
    clear BK218
    clear BK219
    clear BK220
    clear BK221
    clear BK222
    clear HB
    have BK218 := n0_
    have BK219 := n1_
    have BK220 := n2_
    have BK221 := n3_
    have BK222 := n4_
    have HB := n5_
    clear n0_ n1_ n2_ n3_ n4_ n5_
    refine start_ (n := 9) (S := fun w' => w'.cell? ⟨gb218, 0, none⟩ = some (.slice A0_0 l0_0.length c0_0) ∧ w'.cell? ⟨gb218, 1, none⟩ = some (.slice A0_1 l0_1.length c0_1) ∧ w'.cell? ⟨gb221, 0, none⟩ = some (.slice A3_0 l3_0.length c3_0) ∧ w'.cell? ⟨gb221, 1, none⟩ = some (.slice A3_1 l3_1.length c3_1) ∧ w'.cell? ⟨gb220, 0, none⟩ = some (.slice A2_0 l2_0.length c2_0) ∧ w'.cell? ⟨gb220, 1, none⟩ = some (.slice A2_1 l2_1.length c2_1)) (ds := []) #[false, false, false, false, false, false, false, false, false] (by kernel_rfl) rfl rfl ⟨(blk_cell BK218.out 0).trans rfl, (blk_cell BK218.out 1).trans rfl, (blk_cell BK221.out 0).trans rfl, (blk_cell BK221.out 1).trans rfl, (blk_cell BK220.out 0).trans rfl, (blk_cell BK220.out 1).trans rfl⟩ (fun hHeld => ?_); refine with_tabW dense_Back.tab3 dense_Back.bits3 (fun HT_ HW_ => ?_)
    generalize wc.drew = w29 at BK218 BK219 BK220 BK221 BK222 HB hHeld ⊢
    refine take_ (i := 0) (N := some 31) (v := ?_) (a' := ?_) #[true, false, false, false, false, false, false, false, false] rfl rfl (take_ofW HT_.out HW_.out (by kernel_rfl)) (fun _ _ _ h => h) (Or.inl ⟨by rfl, ?_⟩) hHeld ?_ ?_
    rotate_left
    ·rintro w' ⟨s0, s1, s2, s3, s4, s5⟩
     go_simp
     with_reducible rfl
    rotate_left
    ·simp only [Act.put, List.setIfInBounds_toArray, List.set_cons_zero, List.set_cons_succ, i64_w, i32_w]
     rfl
    refine take_ (i := 2) (N := some 33) (v := ?_) (a' := ?_) #[true, false, true, false, false, false, false, false, false] rfl rfl (take_ofW HT_.out HW_.out (by kernel_rfl)) (fun _ _ _ h => h) (Or.inl ⟨by rfl, ?_⟩) hHeld ?_ ?_
    rotate_left
    ·rintro w' ⟨s0, s1, s2, s3, s4, s5⟩
     go_simp
     with_reducible rfl
    rotate_left
    ·simp only [Act.put, List.setIfInBounds_toArray, List.set_cons_zero, List.set_cons_succ, i64_w, i32_w]
     rfl
    refine take_ (i := 4) (N := some 35) (v := ?_) (a' := ?_) #[true, false, true, false, true, false, false, false, false] rfl rfl (take_ofW HT_.out HW_.out (by kernel_rfl)) (fun _ _ _ h => h) (Or.inl ⟨by rfl, ?_⟩) hHeld ?_ ?_
    rotate_left
    ·rintro w' ⟨s0, s1, s2, s3, s4, s5⟩
     go_simp
     with_reducible rfl
    rotate_left
    ·simp only [Act.put, List.setIfInBounds_toArray, List.set_cons_zero, List.set_cons_succ, i64_w, i32_w]
     rfl
    refine join_ (σ := Value × Value × Value × Value × Value × Value × Nat) 1 #[true, true, true, true, true, true, true, true, false] (fun s_ => [(32, .agg #[s_.1, s_.2.1]), (34, .agg #[s_.2.2.1, s_.2.2.2.1]), (36, .agg #[s_.2.2.2.2.1, s_.2.2.2.2.2.1]), (10, .pointer (some ⟨s_.2.2.2.2.2.2, 0, none⟩)), (37, .agg #[s_.1, s_.2.1, s_.2.2.1, s_.2.2.2.1, s_.2.2.2.2.1, s_.2.2.2.2.2.1])]) (fun s_ w' => (w'.cell? ⟨gb218, 0, none⟩ = some (.slice A0_0 l0_0.length c0_0) ∧ w'.cell? ⟨gb218, 1, none⟩ = some (.slice A0_1 l0_1.length c0_1) ∧ w'.cell? ⟨gb221, 0, none⟩ = some (.slice A3_0 l3_0.length c3_0) ∧ w'.cell? ⟨gb221, 1, none⟩ = some (.slice A3_1 l3_1.length c3_1) ∧ w'.cell? ⟨gb220, 0, none⟩ = some (.slice A2_0 l2_0.length c2_0) ∧ w'.cell? ⟨gb220, 1, none⟩ = some (.slice A2_1 l2_1.length c2_1)) ∧ (Kd.R (Kd.int .i64) 3 w' w.heap.size (fun k_ => some k_ ≠ (s_.2.2.1 : Value).ownBlock ∧ some k_ ≠ (s_.2.2.2.2.1 : Value).ownBlock) s_.1 t226) ∧ (Kd.R (Kd.int .i64) 47 w' w.heap.size (fun k_ => some k_ ≠ (s_.2.2.2.1 : Value).ownBlock ∧ some k_ ≠ (s_.2.2.2.2.2.1 : Value).ownBlock) s_.2.1 t229) ∧ (Kd.R (Kd.int .i64) 3 w' w.heap.size (fun k_ => some k_ ≠ (s_.1 : Value).ownBlock ∧ some k_ ≠ (s_.2.2.2.2.1 : Value).ownBlock) s_.2.2.1 t232) ∧ (Kd.R (Kd.int .i64) 47 w' w.heap.size (fun k_ => some k_ ≠ (s_.2.1 : Value).ownBlock ∧ some k_ ≠ (s_.2.2.2.2.2.1 : Value).ownBlock) s_.2.2.2.1 t235) ∧ (Kd.R (Kd.int .i64) 3 w' w.heap.size (fun k_ => some k_ ≠ (s_.1 : Value).ownBlock ∧ some k_ ≠ (s_.2.2.1 : Value).ownBlock) s_.2.2.2.2.1 t238) ∧ (Kd.R (Kd.int .i64) 47 w' w.heap.size (fun k_ => some k_ ≠ (s_.2.1 : Value).ownBlock ∧ some k_ ≠ (s_.2.2.2.1 : Value).ownBlock) s_.2.2.2.2.2.1 t241) ∧ (w'.heap[gb218]? = some (.cells #[.slice A0_0 l0_0.length c0_0, .slice A0_1 l0_1.length c0_1] 26 (0, 0))) ∧ (w'.heap[gb219]? = some (.cells #[.slice A1_0 l1_0.length c1_0, .slice A1_1 l1_1.length c1_1] 26 (0, 0))) ∧ (w'.heap[gb220]? = some (.cells #[.slice A2_0 l2_0.length c2_0, .slice A2_1 l2_1.length c2_1] 26 (0, 0))) ∧ (w'.heap[gb221]? = some (.cells #[.slice A3_0 l3_0.length c3_0, .slice A3_1 l3_1.length c3_1] 26 (0, 0))) ∧ (w'.heap[gb222]? = some (.cells #[.slice none 0 0, .slice none 0 0, .slice none 0 0, .slice none 0 0, .slice none 0 0, .slice none 0 0] 39 (0, 0))) ∧ (w'.heap[s_.2.2.2.2.2.2]? = some (.cells #[.slice none 0 0, .slice none 0 0, .slice none 0 0, .slice none 0 0, .slice none 0 0, .slice none 0 0] 39 (0, 0))) ∧ (w.heap.size ≤ s_.2.2.2.2.2.2) ∧ (w.heap.size ≤ s_.2.2.2.2.2.2) ∧ (gb218 ≠ s_.2.2.2.2.2.2) ∧ (s_.2.2.2.2.2.2 ≠ gb218) ∧ (gb219 ≠ s_.2.2.2.2.2.2) ∧ (s_.2.2.2.2.2.2 ≠ gb219) ∧ (gb220 ≠ s_.2.2.2.2.2.2) ∧ (s_.2.2.2.2.2.2 ≠ gb220) ∧ (gb221 ≠ s_.2.2.2.2.2.2) ∧ (s_.2.2.2.2.2.2 ≠ gb221) ∧ (gb222 ≠ s_.2.2.2.2.2.2) ∧ (s_.2.2.2.2.2.2 ≠ gb222) ∧ (Below w.heap.size w w')) ?_ ?_
    rotate_left
    ·intro hCont
     refine two_ (i := 1) (j := 7) (Ni := some 32) (Nj := some 10) #[true, true, true, false, true, false, false, false, false] #[true, false, true, false, true, false, false, true, false] rfl rfl rfl rfl (two_of HT_.out (by kernel_rfl)) (by decide) (by decide) (fun K hK => ?_) (fun K hK => ?_)
     ·skip
      refine goes_ Try.func28 (by kernel_rfl) rfl #[.agg #[.slice A0_0 l0_0.length c0_0, .slice A0_1 l0_1.length c0_1]] (by rfl) rfl rfl (by (try simp only [List.map_toArray, List.map_cons, List.map_nil]); first | done | rfl | (simp only [List.length_drop, List.length_take]; rfl)) ?_
      with_reducible refine (tensor_Grid_fix_F_Copy.calls _ _ l0_0 _ _ l0_1 t226 t229 _ ?side1 ?side2 ?side3 ?side4 A26.out).mono ?_
      (case side1 => repeat (first|exact (Kd.C_below HR0_0.out HB.out) | with_reducible first|apply cA|apply cN|apply cD))
      (case side2 => exact HC0_0.out)
      (case side3 => repeat (first|exact (Kd.C_below HR0_1.out HB.out) | with_reducible first|apply cA|apply cN|apply cD))
      (case side4 => exact HC0_1.out)
      rintro e w30 ⟨v227, v230, rfl, ho0, ho1, hb⟩
      refine ⟨_, rfl, ?_⟩
      have n0_ := aM (Kd.R_lower ho0 (below_size (by repeat (first | (with_reducible first|exact HB.out|apply bA|apply bN|apply bD|refine bS ?_ GE218.out|refine bS ?_ GE219.out|refine bS ?_ GE220.out|refine bS ?_ GE221.out|refine bS ?_ GE222.out)|exact HB.out))))
      have n1_ := aM (Kd.R_lower ho1 (below_size (by repeat (first | (with_reducible first|exact HB.out|apply bA|apply bN|apply bD|refine bS ?_ GE218.out|refine bS ?_ GE219.out|refine bS ?_ GE220.out|refine bS ?_ GE221.out|refine bS ?_ GE222.out)|exact HB.out))))
      have n2_ := aM (blk_below (g := gb218) (o := .cells #[.slice A0_0 l0_0.length c0_0, .slice A0_1 l0_1.length c0_1] 26 (0, 0)) (by (with_reducible repeat (first|apply kN|apply kD|apply kA)); exact BK218.out) hb)
      have n3_ := aM (blk_below (g := gb219) (o := .cells #[.slice A1_0 l1_0.length c1_0, .slice A1_1 l1_1.length c1_1] 26 (0, 0)) (by (with_reducible repeat (first|apply kN|apply kD|apply kA)); exact BK219.out) hb)
      have n4_ := aM (blk_below (g := gb220) (o := .cells #[.slice A2_0 l2_0.length c2_0, .slice A2_1 l2_1.length c2_1] 26 (0, 0)) (by (with_reducible repeat (first|apply kN|apply kD|apply kA)); exact BK220.out) hb)
      have n5_ := aM (blk_below (g := gb221) (o := .cells #[.slice A3_0 l3_0.length c3_0, .slice A3_1 l3_1.length c3_1] 26 (0, 0)) (by (with_reducible repeat (first|apply kN|apply kD|apply kA)); exact BK221.out) hb)
      have n6_ := aM (blk_below (g := gb222) (o := .cells #[.slice none 0 0, .slice none 0 0, .slice none 0 0, .slice none 0 0, .slice none 0 0, .slice none 0 0] 39 (0, 0)) (by (with_reducible repeat (first|apply kN|apply kD|apply kA)); exact BK222.out) hb)
      have n7_ := aM (below_step (by repeat (first | (with_reducible first|exact HB.out|apply bA|apply bN|apply bD|refine bS ?_ GE218.out|refine bS ?_ GE219.out|refine bS ?_ GE220.out|refine bS ?_ GE221.out|refine bS ?_ GE222.out)|exact HB.out)) hb)
      clear BK218
      clear BK219
      clear BK220
      clear BK221
      clear BK222
      clear HB
      have HO228 := n0_
      have HO231 := n1_
      have BK218 := n2_
      have BK219 := n3_
      have BK220 := n4_
      have BK221 := n5_
      have BK222 := n6_
      have HB := n7_
      clear n0_ n1_ n2_ n3_ n4_ n5_ n6_ n7_
      (try clear hb)
      skip
      (try clear hk)
      skip
      (try clear ho0)
      (try clear ho1)
      refine hK.out _ _ ⟨(blk_cell BK218.out 0).trans rfl, (blk_cell BK218.out 1).trans rfl, (blk_cell BK221.out 0).trans rfl, (blk_cell BK221.out 1).trans rfl, (blk_cell BK220.out 0).trans rfl, (blk_cell BK220.out 1).trans rfl⟩ (fun hHeld => ?_)
      clear hK K
      refine norm_ (a' := ?_) ?_ ?_
      rotate_left
      ·show Act.put _ (some 32) _ = _
       simp only [Act.put, List.setIfInBounds_toArray, List.set_cons_zero, List.set_cons_succ, i64_w, i32_w]
       rfl
      refine two_ (i := 3) (j := 7) (Ni := some 34) (Nj := some 10) #[true, true, true, true, true, false, false, false, false] #[true, true, true, false, true, false, false, true, false] rfl rfl rfl rfl (two_of HT_.out (by kernel_rfl)) (by decide) (by decide) (fun K hK => ?_) (fun K hK => ?_)
      ·skip
       refine goes_ Try.func28 (by kernel_rfl) rfl #[.agg #[.slice A3_0 l3_0.length c3_0, .slice A3_1 l3_1.length c3_1]] (by rfl) rfl rfl (by (try simp only [List.map_toArray, List.map_cons, List.map_nil]); first | done | rfl | (simp only [List.length_drop, List.length_take]; rfl)) ?_
       with_reducible refine (tensor_Grid_fix_F_Copy.calls _ _ l3_0 _ _ l3_1 t232 t235 _ ?side1 ?side2 ?side3 ?side4 A27.out).mono ?_
       (case side1 => repeat (first|exact (Kd.C_below HR3_0.out HB.out) | with_reducible first|apply cA|apply cN|apply cD))
       (case side2 => exact HC3_0.out)
       (case side3 => repeat (first|exact (Kd.C_below HR3_1.out HB.out) | with_reducible first|apply cA|apply cN|apply cD))
       (case side4 => exact HC3_1.out)
       rintro e w31 ⟨v233, v236, rfl, ho0, ho1, hb⟩
       refine ⟨_, rfl, ?_⟩
       have n0_ := aM (Kd.R_elder' (by (with_reducible repeat (first|apply rA|apply rN|apply rD)); exact HO228.out) (Kd.R_base ho0) hb)
       have n1_ := aM (Kd.R_elder' (by (with_reducible repeat (first|apply rA|apply rN|apply rD)); exact HO231.out) (Kd.R_base ho1) hb)
       have n2_ := aM (Kd.R_lower (Kd.R_new' ho0 (Kd.R_lt (by (with_reducible repeat (first|apply rA|apply rN|apply rD)); exact HO228.out))) (below_size (by repeat (first | (with_reducible first|exact HB.out|apply bA|apply bN|apply bD|refine bS ?_ GE218.out|refine bS ?_ GE219.out|refine bS ?_ GE220.out|refine bS ?_ GE221.out|refine bS ?_ GE222.out)|exact HB.out))))
       have n3_ := aM (Kd.R_lower (Kd.R_new' ho1 (Kd.R_lt (by (with_reducible repeat (first|apply rA|apply rN|apply rD)); exact HO231.out))) (below_size (by repeat (first | (with_reducible first|exact HB.out|apply bA|apply bN|apply bD|refine bS ?_ GE218.out|refine bS ?_ GE219.out|refine bS ?_ GE220.out|refine bS ?_ GE221.out|refine bS ?_ GE222.out)|exact HB.out))))
       have n4_ := aM (blk_below (g := gb218) (o := .cells #[.slice A0_0 l0_0.length c0_0, .slice A0_1 l0_1.length c0_1] 26 (0, 0)) (by (with_reducible repeat (first|apply kN|apply kD|apply kA)); exact BK218.out) hb)
       have n5_ := aM (blk_below (g := gb219) (o := .cells #[.slice A1_0 l1_0.length c1_0, .slice A1_1 l1_1.length c1_1] 26 (0, 0)) (by (with_reducible repeat (first|apply kN|apply kD|apply kA)); exact BK219.out) hb)
       have n6_ := aM (blk_below (g := gb220) (o := .cells #[.slice A2_0 l2_0.length c2_0, .slice A2_1 l2_1.length c2_1] 26 (0, 0)) (by (with_reducible repeat (first|apply kN|apply kD|apply kA)); exact BK220.out) hb)
       have n7_ := aM (blk_below (g := gb221) (o := .cells #[.slice A3_0 l3_0.length c3_0, .slice A3_1 l3_1.length c3_1] 26 (0, 0)) (by (with_reducible repeat (first|apply kN|apply kD|apply kA)); exact BK221.out) hb)
       have n8_ := aM (blk_below (g := gb222) (o := .cells #[.slice none 0 0, .slice none 0 0, .slice none 0 0, .slice none 0 0, .slice none 0 0, .slice none 0 0] 39 (0, 0)) (by (with_reducible repeat (first|apply kN|apply kD|apply kA)); exact BK222.out) hb)
       have n9_ := aM (below_step (by repeat (first | (with_reducible first|exact HB.out|apply bA|apply bN|apply bD|refine bS ?_ GE218.out|refine bS ?_ GE219.out|refine bS ?_ GE220.out|refine bS ?_ GE221.out|refine bS ?_ GE222.out)|exact HB.out)) hb)
       clear HO228
       clear HO231
       clear BK218
       clear BK219
       clear BK220
       clear BK221
       clear BK222
       clear HB
       have HO228 := n0_
       have HO231 := n1_
       have HO234 := n2_
       have HO237 := n3_
       have BK218 := n4_
       have BK219 := n5_
       have BK220 := n6_
       have BK221 := n7_
       have BK222 := n8_
       have HB := n9_
       clear n0_ n1_ n2_ n3_ n4_ n5_ n6_ n7_ n8_ n9_
       (try clear hb)
       skip
       (try clear hk)
       skip
       (try clear ho0)
       (try clear ho1)
       refine hK.out _ _ ⟨(blk_cell BK218.out 0).trans rfl, (blk_cell BK218.out 1).trans rfl, (blk_cell BK221.out 0).trans rfl, (blk_cell BK221.out 1).trans rfl, (blk_cell BK220.out 0).trans rfl, (blk_cell BK220.out 1).trans rfl⟩ (fun hHeld => ?_)
       clear hK K
       refine norm_ (a' := ?_) ?_ ?_
       rotate_left
       ·show Act.put _ (some 34) _ = _
        simp only [Act.put, List.setIfInBounds_toArray, List.set_cons_zero, List.set_cons_succ, i64_w, i32_w]
        rfl
       refine two_ (i := 5) (j := 7) (Ni := some 36) (Nj := some 10) #[true, true, true, true, true, true, false, false, false] #[true, true, true, true, true, false, false, true, false] rfl rfl rfl rfl (two_of HT_.out (by kernel_rfl)) (by decide) (by decide) (fun K hK => ?_) (fun K hK => ?_)
       ·skip
        refine goes_ Try.func28 (by kernel_rfl) rfl #[.agg #[.slice A2_0 l2_0.length c2_0, .slice A2_1 l2_1.length c2_1]] (by rfl) rfl rfl (by (try simp only [List.map_toArray, List.map_cons, List.map_nil]); first | done | rfl | (simp only [List.length_drop, List.length_take]; rfl)) ?_
        with_reducible refine (tensor_Grid_fix_F_Copy.calls _ _ l2_0 _ _ l2_1 t238 t241 _ ?side1 ?side2 ?side3 ?side4 A28.out).mono ?_
        (case side1 => repeat (first|exact (Kd.C_below HR2_0.out HB.out) | with_reducible first|apply cA|apply cN|apply cD))
        (case side2 => exact HC2_0.out)
        (case side3 => repeat (first|exact (Kd.C_below HR2_1.out HB.out) | with_reducible first|apply cA|apply cN|apply cD))
        (case side4 => exact HC2_1.out)
        rintro e w32 ⟨v239, v242, rfl, ho0, ho1, hb⟩
        refine ⟨_, rfl, ?_⟩
        have n0_ := aM (Kd.R_elder' (by (with_reducible repeat (first|apply rA|apply rN|apply rD)); exact HO228.out) (Kd.R_base ho0) hb)
        have n1_ := aM (Kd.R_elder' (by (with_reducible repeat (first|apply rA|apply rN|apply rD)); exact HO231.out) (Kd.R_base ho1) hb)
        have n2_ := aM (Kd.R_elder' (by (with_reducible repeat (first|apply rA|apply rN|apply rD)); exact HO234.out) (Kd.R_base ho0) hb)
        have n3_ := aM (Kd.R_elder' (by (with_reducible repeat (first|apply rA|apply rN|apply rD)); exact HO237.out) (Kd.R_base ho1) hb)
        have n4_ := aM (Kd.R_lower (Kd.R_new' (Kd.R_new' ho0 (Kd.R_lt (by (with_reducible repeat (first|apply rA|apply rN|apply rD)); exact HO228.out))) (Kd.R_lt (by (with_reducible repeat (first|apply rA|apply rN|apply rD)); exact HO234.out))) (below_size (by repeat (first | (with_reducible first|exact HB.out|apply bA|apply bN|apply bD|refine bS ?_ GE218.out|refine bS ?_ GE219.out|refine bS ?_ GE220.out|refine bS ?_ GE221.out|refine bS ?_ GE222.out)|exact HB.out))))
        have n5_ := aM (Kd.R_lower (Kd.R_new' (Kd.R_new' ho1 (Kd.R_lt (by (with_reducible repeat (first|apply rA|apply rN|apply rD)); exact HO231.out))) (Kd.R_lt (by (with_reducible repeat (first|apply rA|apply rN|apply rD)); exact HO237.out))) (below_size (by repeat (first | (with_reducible first|exact HB.out|apply bA|apply bN|apply bD|refine bS ?_ GE218.out|refine bS ?_ GE219.out|refine bS ?_ GE220.out|refine bS ?_ GE221.out|refine bS ?_ GE222.out)|exact HB.out))))
        have n6_ := aM (blk_below (g := gb218) (o := .cells #[.slice A0_0 l0_0.length c0_0, .slice A0_1 l0_1.length c0_1] 26 (0, 0)) (by (with_reducible repeat (first|apply kN|apply kD|apply kA)); exact BK218.out) hb)
        have n7_ := aM (blk_below (g := gb219) (o := .cells #[.slice A1_0 l1_0.length c1_0, .slice A1_1 l1_1.length c1_1] 26 (0, 0)) (by (with_reducible repeat (first|apply kN|apply kD|apply kA)); exact BK219.out) hb)
        have n8_ := aM (blk_below (g := gb220) (o := .cells #[.slice A2_0 l2_0.length c2_0, .slice A2_1 l2_1.length c2_1] 26 (0, 0)) (by (with_reducible repeat (first|apply kN|apply kD|apply kA)); exact BK220.out) hb)
        have n9_ := aM (blk_below (g := gb221) (o := .cells #[.slice A3_0 l3_0.length c3_0, .slice A3_1 l3_1.length c3_1] 26 (0, 0)) (by (with_reducible repeat (first|apply kN|apply kD|apply kA)); exact BK221.out) hb)
        have n10_ := aM (blk_below (g := gb222) (o := .cells #[.slice none 0 0, .slice none 0 0, .slice none 0 0, .slice none 0 0, .slice none 0 0, .slice none 0 0] 39 (0, 0)) (by (with_reducible repeat (first|apply kN|apply kD|apply kA)); exact BK222.out) hb)
        have n11_ := aM (below_step (by repeat (first | (with_reducible first|exact HB.out|apply bA|apply bN|apply bD|refine bS ?_ GE218.out|refine bS ?_ GE219.out|refine bS ?_ GE220.out|refine bS ?_ GE221.out|refine bS ?_ GE222.out)|exact HB.out)) hb)
        clear HO228
        clear HO231
        clear HO234
        clear HO237
        clear BK218
        clear BK219
        clear BK220
        clear BK221
        clear BK222
        clear HB
        have HO228 := n0_
        have HO231 := n1_
        have HO234 := n2_
        have HO237 := n3_
        have HO240 := n4_
        have HO243 := n5_
        have BK218 := n6_
        have BK219 := n7_
        have BK220 := n8_
        have BK221 := n9_
        have BK222 := n10_
        have HB := n11_
        clear n0_ n1_ n2_ n3_ n4_ n5_ n6_ n7_ n8_ n9_ n10_ n11_
        (try clear hb)
        skip
        (try clear hk)
        skip
        (try clear ho0)
        (try clear ho1)
        obtain ⟨Ao33, co33, eo33⟩ := Kd.R_slice HO243.out
        (first | subst eo33 | (injection eo33 with f1_ f2_ f3_; have f4_ := f1_.symm; have f5_ := f3_.symm; clear f1_ f2_ f3_; subst f4_; subst f5_))
        obtain ⟨Ao34, co34, eo34⟩ := Kd.R_slice HO240.out
        (first | subst eo34 | (injection eo34 with f1_ f2_ f3_; have f4_ := f1_.symm; have f5_ := f3_.symm; clear f1_ f2_ f3_; subst f4_; subst f5_))
        obtain ⟨Ao35, co35, eo35⟩ := Kd.R_slice HO237.out
        (first | subst eo35 | (injection eo35 with f1_ f2_ f3_; have f4_ := f1_.symm; have f5_ := f3_.symm; clear f1_ f2_ f3_; subst f4_; subst f5_))
        obtain ⟨Ao36, co36, eo36⟩ := Kd.R_slice HO234.out
        (first | subst eo36 | (injection eo36 with f1_ f2_ f3_; have f4_ := f1_.symm; have f5_ := f3_.symm; clear f1_ f2_ f3_; subst f4_; subst f5_))
        obtain ⟨Ao37, co37, eo37⟩ := Kd.R_slice HO231.out
        (first | subst eo37 | (injection eo37 with f1_ f2_ f3_; have f4_ := f1_.symm; have f5_ := f3_.symm; clear f1_ f2_ f3_; subst f4_; subst f5_))
        obtain ⟨Ao38, co38, eo38⟩ := Kd.R_slice HO228.out
        (first | subst eo38 | (injection eo38 with f1_ f2_ f3_; have f4_ := f1_.symm; have f5_ := f3_.symm; clear f1_ f2_ f3_; subst f4_; subst f5_))
        refine hK.out _ _ ⟨(blk_cell BK218.out 0).trans rfl, (blk_cell BK218.out 1).trans rfl, (blk_cell BK221.out 0).trans rfl, (blk_cell BK221.out 1).trans rfl, (blk_cell BK220.out 0).trans rfl, (blk_cell BK220.out 1).trans rfl⟩ (fun hHeld => ?_)
        clear hK K
        refine norm_ (a' := ?_) ?_ ?_
        rotate_left
        ·show Act.put _ (some 36) _ = _
         simp only [Act.put, List.setIfInBounds_toArray, List.set_cons_zero, List.set_cons_succ, i64_w, i32_w]
         rfl
        refine pure_ (i := 6) (N := some 37) (v := ?_) (a' := ?_) #[true, true, true, true, true, true, true, false, false] rfl rfl (any_of HT_.out (by kernel_rfl)) (fun _ _ _ h => h) (Or.inl ⟨by rfl, ?_⟩) ?_ ?_
        rotate_left
        ·intro w'
         go_simp
         with_reducible rfl
        rotate_left
        ·simp only [Act.put, List.setIfInBounds_toArray, List.set_cons_zero, List.set_cons_succ, i64_w, i32_w]
         rfl
        refine one_ (i := 7) (N := some 10) #[true, true, true, true, true, true, true, true, false] rfl rfl (one_of HT_.out (by kernel_rfl)) (by decide) (fun K hK => ?_)
        refine box_step ?hg (N := 10) ?hd (cs := #[.slice none 0 0, .slice none 0 0, .slice none 0 0, .slice none 0 0, .slice none 0 0, .slice none 0 0]) (t := 39) ?hr ?_; (case hd => rfl); (case hg => rfl); (case hr => first | (go_simp; done) | (go_simp; rfl))
        intro gb244 hg w39 hbox hb
        have n0_ := aM (Kd.R_below (by (with_reducible repeat (first|apply rA|apply rN|apply rD)); exact HO228.out) hb)
        have n1_ := aM (Kd.R_below (by (with_reducible repeat (first|apply rA|apply rN|apply rD)); exact HO231.out) hb)
        have n2_ := aM (Kd.R_below (by (with_reducible repeat (first|apply rA|apply rN|apply rD)); exact HO234.out) hb)
        have n3_ := aM (Kd.R_below (by (with_reducible repeat (first|apply rA|apply rN|apply rD)); exact HO237.out) hb)
        have n4_ := aM (Kd.R_below (by (with_reducible repeat (first|apply rA|apply rN|apply rD)); exact HO240.out) hb)
        have n5_ := aM (Kd.R_below (by (with_reducible repeat (first|apply rA|apply rN|apply rD)); exact HO243.out) hb)
        have n6_ := aM (blk_below (g := gb218) (o := .cells #[.slice A0_0 l0_0.length c0_0, .slice A0_1 l0_1.length c0_1] 26 (0, 0)) (by (with_reducible repeat (first|apply kN|apply kD|apply kA)); exact BK218.out) hb)
        have n7_ := aM (blk_below (g := gb219) (o := .cells #[.slice A1_0 l1_0.length c1_0, .slice A1_1 l1_1.length c1_1] 26 (0, 0)) (by (with_reducible repeat (first|apply kN|apply kD|apply kA)); exact BK219.out) hb)
        have n8_ := aM (blk_below (g := gb220) (o := .cells #[.slice A2_0 l2_0.length c2_0, .slice A2_1 l2_1.length c2_1] 26 (0, 0)) (by (with_reducible repeat (first|apply kN|apply kD|apply kA)); exact BK220.out) hb)
        have n9_ := aM (blk_below (g := gb221) (o := .cells #[.slice A3_0 l3_0.length c3_0, .slice A3_1 l3_1.length c3_1] 26 (0, 0)) (by (with_reducible repeat (first|apply kN|apply kD|apply kA)); exact BK221.out) hb)
        have n10_ := aM (blk_below (g := gb222) (o := .cells #[.slice none 0 0, .slice none 0 0, .slice none 0 0, .slice none 0 0, .slice none 0 0, .slice none 0 0] 39 (0, 0)) (by (with_reducible repeat (first|apply kN|apply kD|apply kA)); exact BK222.out) hb)
        have n11_ := aM (below_step (by repeat (first | (with_reducible first|exact HB.out|apply bA|apply bN|apply bD|refine bS ?_ GE218.out|refine bS ?_ GE219.out|refine bS ?_ GE220.out|refine bS ?_ GE221.out|refine bS ?_ GE222.out)|exact HB.out)) hb)
        have n12_ := aM (hbox)
        have n13_ := aM ((by rw [hg]; exact (below_size (by repeat (first | (with_reducible first|exact HB.out|apply bA|apply bN|apply bD|refine bS ?_ GE218.out|refine bS ?_ GE219.out|refine bS ?_ GE220.out|refine bS ?_ GE221.out|refine bS ?_ GE222.out)|exact HB.out))) : w.heap.size ≤ gb244))
        have n14_ := aM ((by rw [hg]; exact (below_size (by repeat (first | (with_reducible first|exact HB.out|apply bA|apply bN|apply bD|refine bS ?_ GE218.out|refine bS ?_ GE219.out|refine bS ?_ GE220.out|refine bS ?_ GE221.out|refine bS ?_ GE222.out)|exact HB.out))) : w.heap.size ≤ gb244))
        have n15_ := aM ((by rw [hg]; exact Nat.ne_of_lt (blk_lt (g := gb218) (o := .cells #[.slice A0_0 l0_0.length c0_0, .slice A0_1 l0_1.length c0_1] 26 (0, 0)) (by (with_reducible repeat (first|apply kN|apply kD|apply kA)); exact BK218.out)) : gb218 ≠ gb244))
        have n16_ := aM ((by rw [hg]; exact Nat.ne_of_gt (blk_lt (g := gb218) (o := .cells #[.slice A0_0 l0_0.length c0_0, .slice A0_1 l0_1.length c0_1] 26 (0, 0)) (by (with_reducible repeat (first|apply kN|apply kD|apply kA)); exact BK218.out)) : gb244 ≠ gb218))
        have n17_ := aM ((by rw [hg]; exact Nat.ne_of_lt (blk_lt (g := gb219) (o := .cells #[.slice A1_0 l1_0.length c1_0, .slice A1_1 l1_1.length c1_1] 26 (0, 0)) (by (with_reducible repeat (first|apply kN|apply kD|apply kA)); exact BK219.out)) : gb219 ≠ gb244))
        have n18_ := aM ((by rw [hg]; exact Nat.ne_of_gt (blk_lt (g := gb219) (o := .cells #[.slice A1_0 l1_0.length c1_0, .slice A1_1 l1_1.length c1_1] 26 (0, 0)) (by (with_reducible repeat (first|apply kN|apply kD|apply kA)); exact BK219.out)) : gb244 ≠ gb219))
        have n19_ := aM ((by rw [hg]; exact Nat.ne_of_lt (blk_lt (g := gb220) (o := .cells #[.slice A2_0 l2_0.length c2_0, .slice A2_1 l2_1.length c2_1] 26 (0, 0)) (by (with_reducible repeat (first|apply kN|apply kD|apply kA)); exact BK220.out)) : gb220 ≠ gb244))
        have n20_ := aM ((by rw [hg]; exact Nat.ne_of_gt (blk_lt (g := gb220) (o := .cells #[.slice A2_0 l2_0.length c2_0, .slice A2_1 l2_1.length c2_1] 26 (0, 0)) (by (with_reducible repeat (first|apply kN|apply kD|apply kA)); exact BK220.out)) : gb244 ≠ gb220))
        have n21_ := aM ((by rw [hg]; exact Nat.ne_of_lt (blk_lt (g := gb221) (o := .cells #[.slice A3_0 l3_0.length c3_0, .slice A3_1 l3_1.length c3_1] 26 (0, 0)) (by (with_reducible repeat (first|apply kN|apply kD|apply kA)); exact BK221.out)) : gb221 ≠ gb244))
        have n22_ := aM ((by rw [hg]; exact Nat.ne_of_gt (blk_lt (g := gb221) (o := .cells #[.slice A3_0 l3_0.length c3_0, .slice A3_1 l3_1.length c3_1] 26 (0, 0)) (by (with_reducible repeat (first|apply kN|apply kD|apply kA)); exact BK221.out)) : gb244 ≠ gb221))
        have n23_ := aM ((by rw [hg]; exact Nat.ne_of_lt (blk_lt (g := gb222) (o := .cells #[.slice none 0 0, .slice none 0 0, .slice none 0 0, .slice none 0 0, .slice none 0 0, .slice none 0 0] 39 (0, 0)) (by (with_reducible repeat (first|apply kN|apply kD|apply kA)); exact BK222.out)) : gb222 ≠ gb244))
        have n24_ := aM ((by rw [hg]; exact Nat.ne_of_gt (blk_lt (g := gb222) (o := .cells #[.slice none 0 0, .slice none 0 0, .slice none 0 0, .slice none 0 0, .slice none 0 0, .slice none 0 0] 39 (0, 0)) (by (with_reducible repeat (first|apply kN|apply kD|apply kA)); exact BK222.out)) : gb244 ≠ gb222))
        clear HO228
        clear HO231
        clear HO234
        clear HO237
        clear HO240
        clear HO243
        clear BK218
        clear BK219
        clear BK220
        clear BK221
        clear BK222
        clear HB
        have HO228 := n0_
        have HO231 := n1_
        have HO234 := n2_
        have HO237 := n3_
        have HO240 := n4_
        have HO243 := n5_
        have BK218 := n6_
        have BK219 := n7_
        have BK220 := n8_
        have BK221 := n9_
        have BK222 := n10_
        have HB := n11_
        have BK244 := n12_
        have GW244 := n13_
        have GE244 := n14_
        have NB218_244 := n15_
        have NB244_218 := n16_
        have NB219_244 := n17_
        have NB244_219 := n18_
        have NB220_244 := n19_
        have NB244_220 := n20_
        have NB221_244 := n21_
        have NB244_221 := n22_
        have NB222_244 := n23_
        have NB244_222 := n24_
        clear n0_ n1_ n2_ n3_ n4_ n5_ n6_ n7_ n8_ n9_ n10_ n11_ n12_ n13_ n14_ n15_ n16_ n17_ n18_ n19_ n20_ n21_ n22_ n23_ n24_
        clear hb hbox hg
        refine hK.out _ _ ⟨(blk_cell BK218.out 0).trans rfl, (blk_cell BK218.out 1).trans rfl, (blk_cell BK221.out 0).trans rfl, (blk_cell BK221.out 1).trans rfl, (blk_cell BK220.out 0).trans rfl, (blk_cell BK220.out 1).trans rfl⟩ (fun hHeld => ?_)
        clear hK K
        refine norm_ (a' := ?_) ?_ ?_
        rotate_left
        ·show Act.put _ (some 10) _ = _
         simp only [Act.put, List.setIfInBounds_toArray, List.set_cons_zero, List.set_cons_succ, i64_w, i32_w]
         rfl
        exact norm_ (by simp only [putAll, Act.put, List.setIfInBounds_toArray, List.set_cons_zero, List.set_cons_succ]) (hCont (.slice Ao38 t226.length co38, .slice Ao37 t229.length co37, .slice Ao36 t232.length co36, .slice Ao35 t235.length co35, .slice Ao34 t238.length co34, .slice Ao33 t241.length co33, gb244) _ ⟨hHeld, (by (with_reducible repeat (first|apply rA|apply rN|apply rD)); exact Kd.R_mono HO228.out (fun _ hk => ⟨hk.1.2, hk.2⟩)), (by (with_reducible repeat (first|apply rA|apply rN|apply rD)); exact Kd.R_mono HO231.out (fun _ hk => ⟨hk.1.2, hk.2⟩)), (by (with_reducible repeat (first|apply rA|apply rN|apply rD)); exact Kd.R_mono HO234.out (fun _ hk => ⟨hk.1.2, hk.2⟩)), (by (with_reducible repeat (first|apply rA|apply rN|apply rD)); exact Kd.R_mono HO237.out (fun _ hk => ⟨hk.1.2, hk.2⟩)), (by (with_reducible repeat (first|apply rA|apply rN|apply rD)); exact Kd.R_mono HO240.out (fun _ hk => ⟨hk.1.2, hk.2⟩)), (by (with_reducible repeat (first|apply rA|apply rN|apply rD)); exact Kd.R_mono HO243.out (fun _ hk => ⟨hk.1.2, hk.2⟩)), (by (with_reducible repeat (first|apply kN|apply kD|apply kA)); exact BK218.out), (by (with_reducible repeat (first|apply kN|apply kD|apply kA)); exact BK219.out), (by (with_reducible repeat (first|apply kN|apply kD|apply kA)); exact BK220.out), (by (with_reducible repeat (first|apply kN|apply kD|apply kA)); exact BK221.out), (by (with_reducible repeat (first|apply kN|apply kD|apply kA)); exact BK222.out), (by (with_reducible repeat (first|apply kN|apply kD|apply kA)); exact BK244.out), GW244.out, GE244.out, NB218_244.out, NB244_218.out, NB219_244.out, NB244_219.out, NB220_244.out, NB244_220.out, NB221_244.out, NB244_221.out, NB222_244.out, NB244_222.out, (by repeat (first | (with_reducible first|exact HB.out|apply bA|apply bN|apply bD|refine bS ?_ GE218.out|refine bS ?_ GE219.out|refine bS ?_ GE220.out|refine bS ?_ GE221.out|refine bS ?_ GE222.out|refine bS ?_ GE244.out)|exact HB.out))⟩)
       ·skip
        refine box_step ?hg (N := 10) ?hd (cs := #[.slice none 0 0, .slice none 0 0, .slice none 0 0, .slice none 0 0, .slice none 0 0, .slice none 0 0]) (t := 39) ?hr ?_; (case hd => rfl); (case hg => rfl); (case hr => first | (go_simp; done) | (go_simp; rfl))
        intro gb244 hg w32 hbox hb
        have n0_ := aM (Kd.R_below (by (with_reducible repeat (first|apply rA|apply rN|apply rD)); exact HO228.out) hb)
        have n1_ := aM (Kd.R_below (by (with_reducible repeat (first|apply rA|apply rN|apply rD)); exact HO231.out) hb)
        have n2_ := aM (Kd.R_below (by (with_reducible repeat (first|apply rA|apply rN|apply rD)); exact HO234.out) hb)
        have n3_ := aM (Kd.R_below (by (with_reducible repeat (first|apply rA|apply rN|apply rD)); exact HO237.out) hb)
        have n4_ := aM (blk_below (g := gb218) (o := .cells #[.slice A0_0 l0_0.length c0_0, .slice A0_1 l0_1.length c0_1] 26 (0, 0)) (by (with_reducible repeat (first|apply kN|apply kD|apply kA)); exact BK218.out) hb)
        have n5_ := aM (blk_below (g := gb219) (o := .cells #[.slice A1_0 l1_0.length c1_0, .slice A1_1 l1_1.length c1_1] 26 (0, 0)) (by (with_reducible repeat (first|apply kN|apply kD|apply kA)); exact BK219.out) hb)
        have n6_ := aM (blk_below (g := gb220) (o := .cells #[.slice A2_0 l2_0.length c2_0, .slice A2_1 l2_1.length c2_1] 26 (0, 0)) (by (with_reducible repeat (first|apply kN|apply kD|apply kA)); exact BK220.out) hb)
        have n7_ := aM (blk_below (g := gb221) (o := .cells #[.slice A3_0 l3_0.length c3_0, .slice A3_1 l3_1.length c3_1] 26 (0, 0)) (by (with_reducible repeat (first|apply kN|apply kD|apply kA)); exact BK221.out) hb)
        have n8_ := aM (blk_below (g := gb222) (o := .cells #[.slice none 0 0, .slice none 0 0, .slice none 0 0, .slice none 0 0, .slice none 0 0, .slice none 0 0] 39 (0, 0)) (by (with_reducible repeat (first|apply kN|apply kD|apply kA)); exact BK222.out) hb)
        have n9_ := aM (below_step (by repeat (first | (with_reducible first|exact HB.out|apply bA|apply bN|apply bD|refine bS ?_ GE218.out|refine bS ?_ GE219.out|refine bS ?_ GE220.out|refine bS ?_ GE221.out|refine bS ?_ GE222.out)|exact HB.out)) hb)
        have n10_ := aM (hbox)
        have n11_ := aM ((by rw [hg]; exact (below_size (by repeat (first | (with_reducible first|exact HB.out|apply bA|apply bN|apply bD|refine bS ?_ GE218.out|refine bS ?_ GE219.out|refine bS ?_ GE220.out|refine bS ?_ GE221.out|refine bS ?_ GE222.out)|exact HB.out))) : w.heap.size ≤ gb244))
        have n12_ := aM ((by rw [hg]; exact (below_size (by repeat (first | (with_reducible first|exact HB.out|apply bA|apply bN|apply bD|refine bS ?_ GE218.out|refine bS ?_ GE219.out|refine bS ?_ GE220.out|refine bS ?_ GE221.out|refine bS ?_ GE222.out)|exact HB.out))) : w.heap.size ≤ gb244))
        have n13_ := aM ((by rw [hg]; exact Nat.ne_of_lt (blk_lt (g := gb218) (o := .cells #[.slice A0_0 l0_0.length c0_0, .slice A0_1 l0_1.length c0_1] 26 (0, 0)) (by (with_reducible repeat (first|apply kN|apply kD|apply kA)); exact BK218.out)) : gb218 ≠ gb244))
        have n14_ := aM ((by rw [hg]; exact Nat.ne_of_gt (blk_lt (g := gb218) (o := .cells #[.slice A0_0 l0_0.length c0_0, .slice A0_1 l0_1.length c0_1] 26 (0, 0)) (by (with_reducible repeat (first|apply kN|apply kD|apply kA)); exact BK218.out)) : gb244 ≠ gb218))
        have n15_ := aM ((by rw [hg]; exact Nat.ne_of_lt (blk_lt (g := gb219) (o := .cells #[.slice A1_0 l1_0.length c1_0, .slice A1_1 l1_1.length c1_1] 26 (0, 0)) (by (with_reducible repeat (first|apply kN|apply kD|apply kA)); exact BK219.out)) : gb219 ≠ gb244))
        have n16_ := aM ((by rw [hg]; exact Nat.ne_of_gt (blk_lt (g := gb219) (o := .cells #[.slice A1_0 l1_0.length c1_0, .slice A1_1 l1_1.length c1_1] 26 (0, 0)) (by (with_reducible repeat (first|apply kN|apply kD|apply kA)); exact BK219.out)) : gb244 ≠ gb219))
        have n17_ := aM ((by rw [hg]; exact Nat.ne_of_lt (blk_lt (g := gb220) (o := .cells #[.slice A2_0 l2_0.length c2_0, .slice A2_1 l2_1.length c2_1] 26 (0, 0)) (by (with_reducible repeat (first|apply kN|apply kD|apply kA)); exact BK220.out)) : gb220 ≠ gb244))
        have n18_ := aM ((by rw [hg]; exact Nat.ne_of_gt (blk_lt (g := gb220) (o := .cells #[.slice A2_0 l2_0.length c2_0, .slice A2_1 l2_1.length c2_1] 26 (0, 0)) (by (with_reducible repeat (first|apply kN|apply kD|apply kA)); exact BK220.out)) : gb244 ≠ gb220))
        have n19_ := aM ((by rw [hg]; exact Nat.ne_of_lt (blk_lt (g := gb221) (o := .cells #[.slice A3_0 l3_0.length c3_0, .slice A3_1 l3_1.length c3_1] 26 (0, 0)) (by (with_reducible repeat (first|apply kN|apply kD|apply kA)); exact BK221.out)) : gb221 ≠ gb244))
        have n20_ := aM ((by rw [hg]; exact Nat.ne_of_gt (blk_lt (g := gb221) (o := .cells #[.slice A3_0 l3_0.length c3_0, .slice A3_1 l3_1.length c3_1] 26 (0, 0)) (by (with_reducible repeat (first|apply kN|apply kD|apply kA)); exact BK221.out)) : gb244 ≠ gb221))
        have n21_ := aM ((by rw [hg]; exact Nat.ne_of_lt (blk_lt (g := gb222) (o := .cells #[.slice none 0 0, .slice none 0 0, .slice none 0 0, .slice none 0 0, .slice none 0 0, .slice none 0 0] 39 (0, 0)) (by (with_reducible repeat (first|apply kN|apply kD|apply kA)); exact BK222.out)) : gb222 ≠ gb244))
        have n22_ := aM ((by rw [hg]; exact Nat.ne_of_gt (blk_lt (g := gb222) (o := .cells #[.slice none 0 0, .slice none 0 0, .slice none 0 0, .slice none 0 0, .slice none 0 0, .slice none 0 0] 39 (0, 0)) (by (with_reducible repeat (first|apply kN|apply kD|apply kA)); exact BK222.out)) : gb244 ≠ gb222))
        clear HO228
        clear HO231
        clear HO234
        clear HO237
        clear BK218
        clear BK219
        clear BK220
        clear BK221
        clear BK222
        clear HB
        have HO228 := n0_
        have HO231 := n1_
        have HO234 := n2_
        have HO237 := n3_
        have BK218 := n4_
        have BK219 := n5_
        have BK220 := n6_
        have BK221 := n7_
        have BK222 := n8_
        have HB := n9_
        have BK244 := n10_
        have GW244 := n11_
        have GE244 := n12_
        have NB218_244 := n13_
        have NB244_218 := n14_
        have NB219_244 := n15_
        have NB244_219 := n16_
        have NB220_244 := n17_
        have NB244_220 := n18_
        have NB221_244 := n19_
        have NB244_221 := n20_
        have NB222_244 := n21_
        have NB244_222 := n22_
        clear n0_ n1_ n2_ n3_ n4_ n5_ n6_ n7_ n8_ n9_ n10_ n11_ n12_ n13_ n14_ n15_ n16_ n17_ n18_ n19_ n20_ n21_ n22_
        clear hb hbox hg
        refine hK.out _ _ ⟨(blk_cell BK218.out 0).trans rfl, (blk_cell BK218.out 1).trans rfl, (blk_cell BK221.out 0).trans rfl, (blk_cell BK221.out 1).trans rfl, (blk_cell BK220.out 0).trans rfl, (blk_cell BK220.out 1).trans rfl⟩ (fun hHeld => ?_)
        clear hK K
        refine norm_ (a' := ?_) ?_ ?_
        rotate_left
        ·show Act.put _ (some 10) _ = _
         simp only [Act.put, List.setIfInBounds_toArray, List.set_cons_zero, List.set_cons_succ, i64_w, i32_w]
         rfl
        refine one_ (i := 5) (N := some 36) #[true, true, true, true, true, true, false, true, false] rfl rfl (one_of HT_.out (by kernel_rfl)) (by decide) (fun K hK => ?_)
        refine goes_ Try.func28 (by kernel_rfl) rfl #[.agg #[.slice A2_0 l2_0.length c2_0, .slice A2_1 l2_1.length c2_1]] (by rfl) rfl rfl (by (try simp only [List.map_toArray, List.map_cons, List.map_nil]); first | done | rfl | (simp only [List.length_drop, List.length_take]; rfl)) ?_
        with_reducible refine (tensor_Grid_fix_F_Copy.calls _ _ l2_0 _ _ l2_1 t238 t241 _ ?side1 ?side2 ?side3 ?side4 A28.out).mono ?_
        (case side1 => repeat (first|exact (Kd.C_below HR2_0.out HB.out) | with_reducible first|apply cA|apply cN|apply cD))
        (case side2 => exact HC2_0.out)
        (case side3 => repeat (first|exact (Kd.C_below HR2_1.out HB.out) | with_reducible first|apply cA|apply cN|apply cD))
        (case side4 => exact HC2_1.out)
        rintro e w33 ⟨v239, v242, rfl, ho0, ho1, hb⟩
        refine ⟨_, rfl, ?_⟩
        have n0_ := aM (Kd.R_elder' (by (with_reducible repeat (first|apply rA|apply rN|apply rD)); exact HO228.out) (Kd.R_base ho0) hb)
        have n1_ := aM (Kd.R_elder' (by (with_reducible repeat (first|apply rA|apply rN|apply rD)); exact HO231.out) (Kd.R_base ho1) hb)
        have n2_ := aM (Kd.R_elder' (by (with_reducible repeat (first|apply rA|apply rN|apply rD)); exact HO234.out) (Kd.R_base ho0) hb)
        have n3_ := aM (Kd.R_elder' (by (with_reducible repeat (first|apply rA|apply rN|apply rD)); exact HO237.out) (Kd.R_base ho1) hb)
        have n4_ := aM (Kd.R_lower (Kd.R_new' (Kd.R_new' ho0 (Kd.R_lt (by (with_reducible repeat (first|apply rA|apply rN|apply rD)); exact HO228.out))) (Kd.R_lt (by (with_reducible repeat (first|apply rA|apply rN|apply rD)); exact HO234.out))) (below_size (by repeat (first | (with_reducible first|exact HB.out|apply bA|apply bN|apply bD|refine bS ?_ GE218.out|refine bS ?_ GE219.out|refine bS ?_ GE220.out|refine bS ?_ GE221.out|refine bS ?_ GE222.out|refine bS ?_ GE244.out)|exact HB.out))))
        have n5_ := aM (Kd.R_lower (Kd.R_new' (Kd.R_new' ho1 (Kd.R_lt (by (with_reducible repeat (first|apply rA|apply rN|apply rD)); exact HO231.out))) (Kd.R_lt (by (with_reducible repeat (first|apply rA|apply rN|apply rD)); exact HO237.out))) (below_size (by repeat (first | (with_reducible first|exact HB.out|apply bA|apply bN|apply bD|refine bS ?_ GE218.out|refine bS ?_ GE219.out|refine bS ?_ GE220.out|refine bS ?_ GE221.out|refine bS ?_ GE222.out|refine bS ?_ GE244.out)|exact HB.out))))
        have n6_ := aM (blk_below (g := gb218) (o := .cells #[.slice A0_0 l0_0.length c0_0, .slice A0_1 l0_1.length c0_1] 26 (0, 0)) (by (with_reducible repeat (first|apply kN|apply kD|apply kA)); exact BK218.out) hb)
        have n7_ := aM (blk_below (g := gb219) (o := .cells #[.slice A1_0 l1_0.length c1_0, .slice A1_1 l1_1.length c1_1] 26 (0, 0)) (by (with_reducible repeat (first|apply kN|apply kD|apply kA)); exact BK219.out) hb)
        have n8_ := aM (blk_below (g := gb220) (o := .cells #[.slice A2_0 l2_0.length c2_0, .slice A2_1 l2_1.length c2_1] 26 (0, 0)) (by (with_reducible repeat (first|apply kN|apply kD|apply kA)); exact BK220.out) hb)
        have n9_ := aM (blk_below (g := gb221) (o := .cells #[.slice A3_0 l3_0.length c3_0, .slice A3_1 l3_1.length c3_1] 26 (0, 0)) (by (with_reducible repeat (first|apply kN|apply kD|apply kA)); exact BK221.out) hb)
        have n10_ := aM (blk_below (g := gb222) (o := .cells #[.slice none 0 0, .slice none 0 0, .slice none 0 0, .slice none 0 0, .slice none 0 0, .slice none 0 0] 39 (0, 0)) (by (with_reducible repeat (first|apply kN|apply kD|apply kA)); exact BK222.out) hb)
        have n11_ := aM (blk_below (g := gb244) (o := .cells #[.slice none 0 0, .slice none 0 0, .slice none 0 0, .slice none 0 0, .slice none 0 0, .slice none 0 0] 39 (0, 0)) (by (with_reducible repeat (first|apply kN|apply kD|apply kA)); exact BK244.out) hb)
        have n12_ := aM (below_step (by repeat (first | (with_reducible first|exact HB.out|apply bA|apply bN|apply bD|refine bS ?_ GE218.out|refine bS ?_ GE219.out|refine bS ?_ GE220.out|refine bS ?_ GE221.out|refine bS ?_ GE222.out|refine bS ?_ GE244.out)|exact HB.out)) hb)
        clear HO228
        clear HO231
        clear HO234
        clear HO237
        clear BK218
        clear BK219
        clear BK220
        clear BK221
        clear BK222
        clear BK244
        clear HB
        have HO228 := n0_
        have HO231 := n1_
        have HO234 := n2_
        have HO237 := n3_
        have HO240 := n4_
        have HO243 := n5_
        have BK218 := n6_
        have BK219 := n7_
        have BK220 := n8_
        have BK221 := n9_
        have BK222 := n10_
        have BK244 := n11_
        have HB := n12_
        clear n0_ n1_ n2_ n3_ n4_ n5_ n6_ n7_ n8_ n9_ n10_ n11_ n12_
        (try clear hb)
        skip
        (try clear hk)
        skip
        (try clear ho0)
        (try clear ho1)
        obtain ⟨Ao34, co34, eo34⟩ := Kd.R_slice HO243.out
        (first | subst eo34 | (injection eo34 with f1_ f2_ f3_; have f4_ := f1_.symm; have f5_ := f3_.symm; clear f1_ f2_ f3_; subst f4_; subst f5_))
        obtain ⟨Ao35, co35, eo35⟩ := Kd.R_slice HO240.out
        (first | subst eo35 | (injection eo35 with f1_ f2_ f3_; have f4_ := f1_.symm; have f5_ := f3_.symm; clear f1_ f2_ f3_; subst f4_; subst f5_))
        obtain ⟨Ao36, co36, eo36⟩ := Kd.R_slice HO237.out
        (first | subst eo36 | (injection eo36 with f1_ f2_ f3_; have f4_ := f1_.symm; have f5_ := f3_.symm; clear f1_ f2_ f3_; subst f4_; subst f5_))
        obtain ⟨Ao37, co37, eo37⟩ := Kd.R_slice HO234.out
        (first | subst eo37 | (injection eo37 with f1_ f2_ f3_; have f4_ := f1_.symm; have f5_ := f3_.symm; clear f1_ f2_ f3_; subst f4_; subst f5_))
        obtain ⟨Ao38, co38, eo38⟩ := Kd.R_slice HO231.out
        (first | subst eo38 | (injection eo38 with f1_ f2_ f3_; have f4_ := f1_.symm; have f5_ := f3_.symm; clear f1_ f2_ f3_; subst f4_; subst f5_))
        obtain ⟨Ao39, co39, eo39⟩ := Kd.R_slice HO228.out
        (first | subst eo39 | (injection eo39 with f1_ f2_ f3_; have f4_ := f1_.symm; have f5_ := f3_.symm; clear f1_ f2_ f3_; subst f4_; subst f5_))
        refine hK.out _ _ ⟨(blk_cell BK218.out 0).trans rfl, (blk_cell BK218.out 1).trans rfl, (blk_cell BK221.out 0).trans rfl, (blk_cell BK221.out 1).trans rfl, (blk_cell BK220.out 0).trans rfl, (blk_cell BK220.out 1).trans rfl⟩ (fun hHeld => ?_)
        clear hK K
        refine norm_ (a' := ?_) ?_ ?_
        rotate_left
        ·show Act.put _ (some 36) _ = _
         simp only [Act.put, List.setIfInBounds_toArray, List.set_cons_zero, List.set_cons_succ, i64_w, i32_w]
         rfl
        refine pure_ (i := 6) (N := some 37) (v := ?_) (a' := ?_) #[true, true, true, true, true, true, true, true, false] rfl rfl (any_of HT_.out (by kernel_rfl)) (fun _ _ _ h => h) (Or.inl ⟨by rfl, ?_⟩) ?_ ?_
        rotate_left
        ·intro w'
         go_simp
         with_reducible rfl
        rotate_left
        ·simp only [Act.put, List.setIfInBounds_toArray, List.set_cons_zero, List.set_cons_succ, i64_w, i32_w]
         rfl
        exact norm_ (by simp only [putAll, Act.put, List.setIfInBounds_toArray, List.set_cons_zero, List.set_cons_succ]) (hCont (.slice Ao39 t226.length co39, .slice Ao38 t229.length co38, .slice Ao37 t232.length co37, .slice Ao36 t235.length co36, .slice Ao35 t238.length co35, .slice Ao34 t241.length co34, gb244) _ ⟨hHeld, (by (with_reducible repeat (first|apply rA|apply rN|apply rD)); exact Kd.R_mono HO228.out (fun _ hk => ⟨hk.1.2, hk.2⟩)), (by (with_reducible repeat (first|apply rA|apply rN|apply rD)); exact Kd.R_mono HO231.out (fun _ hk => ⟨hk.1.2, hk.2⟩)), (by (with_reducible repeat (first|apply rA|apply rN|apply rD)); exact Kd.R_mono HO234.out (fun _ hk => ⟨hk.1.2, hk.2⟩)), (by (with_reducible repeat (first|apply rA|apply rN|apply rD)); exact Kd.R_mono HO237.out (fun _ hk => ⟨hk.1.2, hk.2⟩)), (by (with_reducible repeat (first|apply rA|apply rN|apply rD)); exact Kd.R_mono HO240.out (fun _ hk => ⟨hk.1.2, hk.2⟩)), (by (with_reducible repeat (first|apply rA|apply rN|apply rD)); exact Kd.R_mono HO243.out (fun _ hk => ⟨hk.1.2, hk.2⟩)), (by (with_reducible repeat (first|apply kN|apply kD|apply kA)); exact BK218.out), (by (with_reducible repeat (first|apply kN|apply kD|apply kA)); exact BK219.out), (by (with_reducible repeat (first|apply kN|apply kD|apply kA)); exact BK220.out), (by (with_reducible repeat (first|apply kN|apply kD|apply kA)); exact BK221.out), (by (with_reducible repeat (first|apply kN|apply kD|apply kA)); exact BK222.out), (by (with_reducible repeat (first|apply kN|apply kD|apply kA)); exact BK244.out), GW244.out, GE244.out, NB218_244.out, NB244_218.out, NB219_244.out, NB244_219.out, NB220_244.out, NB244_220.out, NB221_244.out, NB244_221.out, NB222_244.out, NB244_222.out, (by repeat (first | (with_reducible first|exact HB.out|apply bA|apply bN|apply bD|refine bS ?_ GE218.out|refine bS ?_ GE219.out|refine bS ?_ GE220.out|refine bS ?_ GE221.out|refine bS ?_ GE222.out|refine bS ?_ GE244.out)|exact HB.out))⟩)
      ·skip
       refine box_step ?hg (N := 10) ?hd (cs := #[.slice none 0 0, .slice none 0 0, .slice none 0 0, .slice none 0 0, .slice none 0 0, .slice none 0 0]) (t := 39) ?hr ?_; (case hd => rfl); (case hg => rfl); (case hr => first | (go_simp; done) | (go_simp; rfl))
       intro gb244 hg w31 hbox hb
       have n0_ := aM (Kd.R_below (by (with_reducible repeat (first|apply rA|apply rN|apply rD)); exact HO228.out) hb)
       have n1_ := aM (Kd.R_below (by (with_reducible repeat (first|apply rA|apply rN|apply rD)); exact HO231.out) hb)
       have n2_ := aM (blk_below (g := gb218) (o := .cells #[.slice A0_0 l0_0.length c0_0, .slice A0_1 l0_1.length c0_1] 26 (0, 0)) (by (with_reducible repeat (first|apply kN|apply kD|apply kA)); exact BK218.out) hb)
       have n3_ := aM (blk_below (g := gb219) (o := .cells #[.slice A1_0 l1_0.length c1_0, .slice A1_1 l1_1.length c1_1] 26 (0, 0)) (by (with_reducible repeat (first|apply kN|apply kD|apply kA)); exact BK219.out) hb)
       have n4_ := aM (blk_below (g := gb220) (o := .cells #[.slice A2_0 l2_0.length c2_0, .slice A2_1 l2_1.length c2_1] 26 (0, 0)) (by (with_reducible repeat (first|apply kN|apply kD|apply kA)); exact BK220.out) hb)
       have n5_ := aM (blk_below (g := gb221) (o := .cells #[.slice A3_0 l3_0.length c3_0, .slice A3_1 l3_1.length c3_1] 26 (0, 0)) (by (with_reducible repeat (first|apply kN|apply kD|apply kA)); exact BK221.out) hb)
       have n6_ := aM (blk_below (g := gb222) (o := .cells #[.slice none 0 0, .slice none 0 0, .slice none 0 0, .slice none 0 0, .slice none 0 0, .slice none 0 0] 39 (0, 0)) (by (with_reducible repeat (first|apply kN|apply kD|apply kA)); exact BK222.out) hb)
       have n7_ := aM (below_step (by repeat (first | (with_reducible first|exact HB.out|apply bA|apply bN|apply bD|refine bS ?_ GE218.out|refine bS ?_ GE219.out|refine bS ?_ GE220.out|refine bS ?_ GE221.out|refine bS ?_ GE222.out)|exact HB.out)) hb)
       have n8_ := aM (hbox)
       have n9_ := aM ((by rw [hg]; exact (below_size (by repeat (first | (with_reducible first|exact HB.out|apply bA|apply bN|apply bD|refine bS ?_ GE218.out|refine bS ?_ GE219.out|refine bS ?_ GE220.out|refine bS ?_ GE221.out|refine bS ?_ GE222.out)|exact HB.out))) : w.heap.size ≤ gb244))
       have n10_ := aM ((by rw [hg]; exact (below_size (by repeat (first | (with_reducible first|exact HB.out|apply bA|apply bN|apply bD|refine bS ?_ GE218.out|refine bS ?_ GE219.out|refine bS ?_ GE220.out|refine bS ?_ GE221.out|refine bS ?_ GE222.out)|exact HB.out))) : w.heap.size ≤ gb244))
       have n11_ := aM ((by rw [hg]; exact Nat.ne_of_lt (blk_lt (g := gb218) (o := .cells #[.slice A0_0 l0_0.length c0_0, .slice A0_1 l0_1.length c0_1] 26 (0, 0)) (by (with_reducible repeat (first|apply kN|apply kD|apply kA)); exact BK218.out)) : gb218 ≠ gb244))
       have n12_ := aM ((by rw [hg]; exact Nat.ne_of_gt (blk_lt (g := gb218) (o := .cells #[.slice A0_0 l0_0.length c0_0, .slice A0_1 l0_1.length c0_1] 26 (0, 0)) (by (with_reducible repeat (first|apply kN|apply kD|apply kA)); exact BK218.out)) : gb244 ≠ gb218))
       have n13_ := aM ((by rw [hg]; exact Nat.ne_of_lt (blk_lt (g := gb219) (o := .cells #[.slice A1_0 l1_0.length c1_0, .slice A1_1 l1_1.length c1_1] 26 (0, 0)) (by (with_reducible repeat (first|apply kN|apply kD|apply kA)); exact BK219.out)) : gb219 ≠ gb244))
       have n14_ := aM ((by rw [hg]; exact Nat.ne_of_gt (blk_lt (g := gb219) (o := .cells #[.slice A1_0 l1_0.length c1_0, .slice A1_1 l1_1.length c1_1] 26 (0, 0)) (by (with_reducible repeat (first|apply kN|apply kD|apply kA)); exact BK219.out)) : gb244 ≠ gb219))
       have n15_ := aM ((by rw [hg]; exact Nat.ne_of_lt (blk_lt (g := gb220) (o := .cells #[.slice A2_0 l2_0.length c2_0, .slice A2_1 l2_1.length c2_1] 26 (0, 0)) (by (with_reducible repeat (first|apply kN|apply kD|apply kA)); exact BK220.out)) : gb220 ≠ gb244))
       have n16_ := aM ((by rw [hg]; exact Nat.ne_of_gt (blk_lt (g := gb220) (o := .cells #[.slice A2_0 l2_0.length c2_0, .slice A2_1 l2_1.length c2_1] 26 (0, 0)) (by (with_reducible repeat (first|apply kN|apply kD|apply kA)); exact BK220.out)) : gb244 ≠ gb220))
       have n17_ := aM ((by rw [hg]; exact Nat.ne_of_lt (blk_lt (g := gb221) (o := .cells #[.slice A3_0 l3_0.length c3_0, .slice A3_1 l3_1.length c3_1] 26 (0, 0)) (by (with_reducible repeat (first|apply kN|apply kD|apply kA)); exact BK221.out)) : gb221 ≠ gb244))
       have n18_ := aM ((by rw [hg]; exact Nat.ne_of_gt (blk_lt (g := gb221) (o := .cells #[.slice A3_0 l3_0.length c3_0, .slice A3_1 l3_1.length c3_1] 26 (0, 0)) (by (with_reducible repeat (first|apply kN|apply kD|apply kA)); exact BK221.out)) : gb244 ≠ gb221))
       have n19_ := aM ((by rw [hg]; exact Nat.ne_of_lt (blk_lt (g := gb222) (o := .cells #[.slice none 0 0, .slice none 0 0, .slice none 0 0, .slice none 0 0, .slice none 0 0, .slice none 0 0] 39 (0, 0)) (by (with_reducible repeat (first|apply kN|apply kD|apply kA)); exact BK222.out)) : gb222 ≠ gb244))
       have n20_ := aM ((by rw [hg]; exact Nat.ne_of_gt (blk_lt (g := gb222) (o := .cells #[.slice none 0 0, .slice none 0 0, .slice none 0 0, .slice none 0 0, .slice none 0 0, .slice none 0 0] 39 (0, 0)) (by (with_reducible repeat (first|apply kN|apply kD|apply kA)); exact BK222.out)) : gb244 ≠ gb222))
       clear HO228
       clear HO231
       clear BK218
       clear BK219
       clear BK220
       clear BK221
       clear BK222
       clear HB
       have HO228 := n0_
       have HO231 := n1_
       have BK218 := n2_
       have BK219 := n3_
       have BK220 := n4_
       have BK221 := n5_
       have BK222 := n6_
       have HB := n7_
       have BK244 := n8_
       have GW244 := n9_
       have GE244 := n10_
       have NB218_244 := n11_
       have NB244_218 := n12_
       have NB219_244 := n13_
       have NB244_219 := n14_
       have NB220_244 := n15_
       have NB244_220 := n16_
       have NB221_244 := n17_
       have NB244_221 := n18_
       have NB222_244 := n19_
       have NB244_222 := n20_
       clear n0_ n1_ n2_ n3_ n4_ n5_ n6_ n7_ n8_ n9_ n10_ n11_ n12_ n13_ n14_ n15_ n16_ n17_ n18_ n19_ n20_
       clear hb hbox hg
       refine hK.out _ _ ⟨(blk_cell BK218.out 0).trans rfl, (blk_cell BK218.out 1).trans rfl, (blk_cell BK221.out 0).trans rfl, (blk_cell BK221.out 1).trans rfl, (blk_cell BK220.out 0).trans rfl, (blk_cell BK220.out 1).trans rfl⟩ (fun hHeld => ?_)
       clear hK K
       refine norm_ (a' := ?_) ?_ ?_
       rotate_left
       ·show Act.put _ (some 10) _ = _
        simp only [Act.put, List.setIfInBounds_toArray, List.set_cons_zero, List.set_cons_succ, i64_w, i32_w]
        rfl
       refine one_ (i := 3) (N := some 34) #[true, true, true, true, true, false, false, true, false] rfl rfl (one_of HT_.out (by kernel_rfl)) (by decide) (fun K hK => ?_)
       refine goes_ Try.func28 (by kernel_rfl) rfl #[.agg #[.slice A3_0 l3_0.length c3_0, .slice A3_1 l3_1.length c3_1]] (by rfl) rfl rfl (by (try simp only [List.map_toArray, List.map_cons, List.map_nil]); first | done | rfl | (simp only [List.length_drop, List.length_take]; rfl)) ?_
       with_reducible refine (tensor_Grid_fix_F_Copy.calls _ _ l3_0 _ _ l3_1 t232 t235 _ ?side1 ?side2 ?side3 ?side4 A27.out).mono ?_
       (case side1 => repeat (first|exact (Kd.C_below HR3_0.out HB.out) | with_reducible first|apply cA|apply cN|apply cD))
       (case side2 => exact HC3_0.out)
       (case side3 => repeat (first|exact (Kd.C_below HR3_1.out HB.out) | with_reducible first|apply cA|apply cN|apply cD))
       (case side4 => exact HC3_1.out)
       rintro e w32 ⟨v233, v236, rfl, ho0, ho1, hb⟩
       refine ⟨_, rfl, ?_⟩
       have n0_ := aM (Kd.R_elder' (by (with_reducible repeat (first|apply rA|apply rN|apply rD)); exact HO228.out) (Kd.R_base ho0) hb)
       have n1_ := aM (Kd.R_elder' (by (with_reducible repeat (first|apply rA|apply rN|apply rD)); exact HO231.out) (Kd.R_base ho1) hb)
       have n2_ := aM (Kd.R_lower (Kd.R_new' ho0 (Kd.R_lt (by (with_reducible repeat (first|apply rA|apply rN|apply rD)); exact HO228.out))) (below_size (by repeat (first | (with_reducible first|exact HB.out|apply bA|apply bN|apply bD|refine bS ?_ GE218.out|refine bS ?_ GE219.out|refine bS ?_ GE220.out|refine bS ?_ GE221.out|refine bS ?_ GE222.out|refine bS ?_ GE244.out)|exact HB.out))))
       have n3_ := aM (Kd.R_lower (Kd.R_new' ho1 (Kd.R_lt (by (with_reducible repeat (first|apply rA|apply rN|apply rD)); exact HO231.out))) (below_size (by repeat (first | (with_reducible first|exact HB.out|apply bA|apply bN|apply bD|refine bS ?_ GE218.out|refine bS ?_ GE219.out|refine bS ?_ GE220.out|refine bS ?_ GE221.out|refine bS ?_ GE222.out|refine bS ?_ GE244.out)|exact HB.out))))
       have n4_ := aM (blk_below (g := gb218) (o := .cells #[.slice A0_0 l0_0.length c0_0, .slice A0_1 l0_1.length c0_1] 26 (0, 0)) (by (with_reducible repeat (first|apply kN|apply kD|apply kA)); exact BK218.out) hb)
       have n5_ := aM (blk_below (g := gb219) (o := .cells #[.slice A1_0 l1_0.length c1_0, .slice A1_1 l1_1.length c1_1] 26 (0, 0)) (by (with_reducible repeat (first|apply kN|apply kD|apply kA)); exact BK219.out) hb)
       have n6_ := aM (blk_below (g := gb220) (o := .cells #[.slice A2_0 l2_0.length c2_0, .slice A2_1 l2_1.length c2_1] 26 (0, 0)) (by (with_reducible repeat (first|apply kN|apply kD|apply kA)); exact BK220.out) hb)
       have n7_ := aM (blk_below (g := gb221) (o := .cells #[.slice A3_0 l3_0.length c3_0, .slice A3_1 l3_1.length c3_1] 26 (0, 0)) (by (with_reducible repeat (first|apply kN|apply kD|apply kA)); exact BK221.out) hb)
       have n8_ := aM (blk_below (g := gb222) (o := .cells #[.slice none 0 0, .slice none 0 0, .slice none 0 0, .slice none 0 0, .slice none 0 0, .slice none 0 0] 39 (0, 0)) (by (with_reducible repeat (first|apply kN|apply kD|apply kA)); exact BK222.out) hb)
       have n9_ := aM (blk_below (g := gb244) (o := .cells #[.slice none 0 0, .slice none 0 0, .slice none 0 0, .slice none 0 0, .slice none 0 0, .slice none 0 0] 39 (0, 0)) (by (with_reducible repeat (first|apply kN|apply kD|apply kA)); exact BK244.out) hb)
       have n10_ := aM (below_step (by repeat (first | (with_reducible first|exact HB.out|apply bA|apply bN|apply bD|refine bS ?_ GE218.out|refine bS ?_ GE219.out|refine bS ?_ GE220.out|refine bS ?_ GE221.out|refine bS ?_ GE222.out|refine bS ?_ GE244.out)|exact HB.out)) hb)
       clear HO228
       clear HO231
       clear BK218
       clear BK219
       clear BK220
       clear BK221
       clear BK222
       clear BK244
       clear HB
       have HO228 := n0_
       have HO231 := n1_
       have HO234 := n2_
       have HO237 := n3_
       have BK218 := n4_
       have BK219 := n5_
       have BK220 := n6_
       have BK221 := n7_
       have BK222 := n8_
       have BK244 := n9_
       have HB := n10_
       clear n0_ n1_ n2_ n3_ n4_ n5_ n6_ n7_ n8_ n9_ n10_
       (try clear hb)
       skip
       (try clear hk)
       skip
       (try clear ho0)
       (try clear ho1)
       refine hK.out _ _ ⟨(blk_cell BK218.out 0).trans rfl, (blk_cell BK218.out 1).trans rfl, (blk_cell BK221.out 0).trans rfl, (blk_cell BK221.out 1).trans rfl, (blk_cell BK220.out 0).trans rfl, (blk_cell BK220.out 1).trans rfl⟩ (fun hHeld => ?_)
       clear hK K
       refine norm_ (a' := ?_) ?_ ?_
       rotate_left
       ·show Act.put _ (some 34) _ = _
        simp only [Act.put, List.setIfInBounds_toArray, List.set_cons_zero, List.set_cons_succ, i64_w, i32_w]
        rfl
       refine one_ (i := 5) (N := some 36) #[true, true, true, true, true, true, false, true, false] rfl rfl (one_of HT_.out (by kernel_rfl)) (by decide) (fun K hK => ?_)
       refine goes_ Try.func28 (by kernel_rfl) rfl #[.agg #[.slice A2_0 l2_0.length c2_0, .slice A2_1 l2_1.length c2_1]] (by rfl) rfl rfl (by (try simp only [List.map_toArray, List.map_cons, List.map_nil]); first | done | rfl | (simp only [List.length_drop, List.length_take]; rfl)) ?_
       with_reducible refine (tensor_Grid_fix_F_Copy.calls _ _ l2_0 _ _ l2_1 t238 t241 _ ?side1 ?side2 ?side3 ?side4 A28.out).mono ?_
       (case side1 => repeat (first|exact (Kd.C_below HR2_0.out HB.out) | with_reducible first|apply cA|apply cN|apply cD))
       (case side2 => exact HC2_0.out)
       (case side3 => repeat (first|exact (Kd.C_below HR2_1.out HB.out) | with_reducible first|apply cA|apply cN|apply cD))
       (case side4 => exact HC2_1.out)
       rintro e w33 ⟨v239, v242, rfl, ho0, ho1, hb⟩
       refine ⟨_, rfl, ?_⟩
       have n0_ := aM (Kd.R_elder' (by (with_reducible repeat (first|apply rA|apply rN|apply rD)); exact HO228.out) (Kd.R_base ho0) hb)
       have n1_ := aM (Kd.R_elder' (by (with_reducible repeat (first|apply rA|apply rN|apply rD)); exact HO231.out) (Kd.R_base ho1) hb)
       have n2_ := aM (Kd.R_elder' (by (with_reducible repeat (first|apply rA|apply rN|apply rD)); exact HO234.out) (Kd.R_base ho0) hb)
       have n3_ := aM (Kd.R_elder' (by (with_reducible repeat (first|apply rA|apply rN|apply rD)); exact HO237.out) (Kd.R_base ho1) hb)
       have n4_ := aM (Kd.R_lower (Kd.R_new' (Kd.R_new' ho0 (Kd.R_lt (by (with_reducible repeat (first|apply rA|apply rN|apply rD)); exact HO228.out))) (Kd.R_lt (by (with_reducible repeat (first|apply rA|apply rN|apply rD)); exact HO234.out))) (below_size (by repeat (first | (with_reducible first|exact HB.out|apply bA|apply bN|apply bD|refine bS ?_ GE218.out|refine bS ?_ GE219.out|refine bS ?_ GE220.out|refine bS ?_ GE221.out|refine bS ?_ GE222.out|refine bS ?_ GE244.out)|exact HB.out))))
       have n5_ := aM (Kd.R_lower (Kd.R_new' (Kd.R_new' ho1 (Kd.R_lt (by (with_reducible repeat (first|apply rA|apply rN|apply rD)); exact HO231.out))) (Kd.R_lt (by (with_reducible repeat (first|apply rA|apply rN|apply rD)); exact HO237.out))) (below_size (by repeat (first | (with_reducible first|exact HB.out|apply bA|apply bN|apply bD|refine bS ?_ GE218.out|refine bS ?_ GE219.out|refine bS ?_ GE220.out|refine bS ?_ GE221.out|refine bS ?_ GE222.out|refine bS ?_ GE244.out)|exact HB.out))))
       have n6_ := aM (blk_below (g := gb218) (o := .cells #[.slice A0_0 l0_0.length c0_0, .slice A0_1 l0_1.length c0_1] 26 (0, 0)) (by (with_reducible repeat (first|apply kN|apply kD|apply kA)); exact BK218.out) hb)
       have n7_ := aM (blk_below (g := gb219) (o := .cells #[.slice A1_0 l1_0.length c1_0, .slice A1_1 l1_1.length c1_1] 26 (0, 0)) (by (with_reducible repeat (first|apply kN|apply kD|apply kA)); exact BK219.out) hb)
       have n8_ := aM (blk_below (g := gb220) (o := .cells #[.slice A2_0 l2_0.length c2_0, .slice A2_1 l2_1.length c2_1] 26 (0, 0)) (by (with_reducible repeat (first|apply kN|apply kD|apply kA)); exact BK220.out) hb)
       have n9_ := aM (blk_below (g := gb221) (o := .cells #[.slice A3_0 l3_0.length c3_0, .slice A3_1 l3_1.length c3_1] 26 (0, 0)) (by (with_reducible repeat (first|apply kN|apply kD|apply kA)); exact BK221.out) hb)
       have n10_ := aM (blk_below (g := gb222) (o := .cells #[.slice none 0 0, .slice none 0 0, .slice none 0 0, .slice none 0 0, .slice none 0 0, .slice none 0 0] 39 (0, 0)) (by (with_reducible repeat (first|apply kN|apply kD|apply kA)); exact BK222.out) hb)
       have n11_ := aM (blk_below (g := gb244) (o := .cells #[.slice none 0 0, .slice none 0 0, .slice none 0 0, .slice none 0 0, .slice none 0 0, .slice none 0 0] 39 (0, 0)) (by (with_reducible repeat (first|apply kN|apply kD|apply kA)); exact BK244.out) hb)
       have n12_ := aM (below_step (by repeat (first | (with_reducible first|exact HB.out|apply bA|apply bN|apply bD|refine bS ?_ GE218.out|refine bS ?_ GE219.out|refine bS ?_ GE220.out|refine bS ?_ GE221.out|refine bS ?_ GE222.out|refine bS ?_ GE244.out)|exact HB.out)) hb)
       clear HO228
       clear HO231
       clear HO234
       clear HO237
       clear BK218
       clear BK219
       clear BK220
       clear BK221
       clear BK222
       clear BK244
       clear HB
       have HO228 := n0_
       have HO231 := n1_
       have HO234 := n2_
       have HO237 := n3_
       have HO240 := n4_
       have HO243 := n5_
       have BK218 := n6_
       have BK219 := n7_
       have BK220 := n8_
       have BK221 := n9_
       have BK222 := n10_
       have BK244 := n11_
       have HB := n12_
       clear n0_ n1_ n2_ n3_ n4_ n5_ n6_ n7_ n8_ n9_ n10_ n11_ n12_
       (try clear hb)
       skip
       (try clear hk)
       skip
       (try clear ho0)
       (try clear ho1)
       obtain ⟨Ao34, co34, eo34⟩ := Kd.R_slice HO243.out
       (first | subst eo34 | (injection eo34 with f1_ f2_ f3_; have f4_ := f1_.symm; have f5_ := f3_.symm; clear f1_ f2_ f3_; subst f4_; subst f5_))
       obtain ⟨Ao35, co35, eo35⟩ := Kd.R_slice HO240.out
       (first | subst eo35 | (injection eo35 with f1_ f2_ f3_; have f4_ := f1_.symm; have f5_ := f3_.symm; clear f1_ f2_ f3_; subst f4_; subst f5_))
       obtain ⟨Ao36, co36, eo36⟩ := Kd.R_slice HO237.out
       (first | subst eo36 | (injection eo36 with f1_ f2_ f3_; have f4_ := f1_.symm; have f5_ := f3_.symm; clear f1_ f2_ f3_; subst f4_; subst f5_))
       obtain ⟨Ao37, co37, eo37⟩ := Kd.R_slice HO234.out
       (first | subst eo37 | (injection eo37 with f1_ f2_ f3_; have f4_ := f1_.symm; have f5_ := f3_.symm; clear f1_ f2_ f3_; subst f4_; subst f5_))
       obtain ⟨Ao38, co38, eo38⟩ := Kd.R_slice HO231.out
       (first | subst eo38 | (injection eo38 with f1_ f2_ f3_; have f4_ := f1_.symm; have f5_ := f3_.symm; clear f1_ f2_ f3_; subst f4_; subst f5_))
       obtain ⟨Ao39, co39, eo39⟩ := Kd.R_slice HO228.out
       (first | subst eo39 | (injection eo39 with f1_ f2_ f3_; have f4_ := f1_.symm; have f5_ := f3_.symm; clear f1_ f2_ f3_; subst f4_; subst f5_))
       refine hK.out _ _ ⟨(blk_cell BK218.out 0).trans rfl, (blk_cell BK218.out 1).trans rfl, (blk_cell BK221.out 0).trans rfl, (blk_cell BK221.out 1).trans rfl, (blk_cell BK220.out 0).trans rfl, (blk_cell BK220.out 1).trans rfl⟩ (fun hHeld => ?_)
       clear hK K
       refine norm_ (a' := ?_) ?_ ?_
       rotate_left
       ·show Act.put _ (some 36) _ = _
        simp only [Act.put, List.setIfInBounds_toArray, List.set_cons_zero, List.set_cons_succ, i64_w, i32_w]
        rfl
       refine pure_ (i := 6) (N := some 37) (v := ?_) (a' := ?_) #[true, true, true, true, true, true, true, true, false] rfl rfl (any_of HT_.out (by kernel_rfl)) (fun _ _ _ h => h) (Or.inl ⟨by rfl, ?_⟩) ?_ ?_
       rotate_left
       ·intro w'
        go_simp
        with_reducible rfl
       rotate_left
       ·simp only [Act.put, List.setIfInBounds_toArray, List.set_cons_zero, List.set_cons_succ, i64_w, i32_w]
        rfl
       exact norm_ (by simp only [putAll, Act.put, List.setIfInBounds_toArray, List.set_cons_zero, List.set_cons_succ]) (hCont (.slice Ao39 t226.length co39, .slice Ao38 t229.length co38, .slice Ao37 t232.length co37, .slice Ao36 t235.length co36, .slice Ao35 t238.length co35, .slice Ao34 t241.length co34, gb244) _ ⟨hHeld, (by (with_reducible repeat (first|apply rA|apply rN|apply rD)); exact Kd.R_mono HO228.out (fun _ hk => ⟨hk.1.2, hk.2⟩)), (by (with_reducible repeat (first|apply rA|apply rN|apply rD)); exact Kd.R_mono HO231.out (fun _ hk => ⟨hk.1.2, hk.2⟩)), (by (with_reducible repeat (first|apply rA|apply rN|apply rD)); exact Kd.R_mono HO234.out (fun _ hk => ⟨hk.1.2, hk.2⟩)), (by (with_reducible repeat (first|apply rA|apply rN|apply rD)); exact Kd.R_mono HO237.out (fun _ hk => ⟨hk.1.2, hk.2⟩)), (by (with_reducible repeat (first|apply rA|apply rN|apply rD)); exact Kd.R_mono HO240.out (fun _ hk => ⟨hk.1.2, hk.2⟩)), (by (with_reducible repeat (first|apply rA|apply rN|apply rD)); exact Kd.R_mono HO243.out (fun _ hk => ⟨hk.1.2, hk.2⟩)), (by (with_reducible repeat (first|apply kN|apply kD|apply kA)); exact BK218.out), (by (with_reducible repeat (first|apply kN|apply kD|apply kA)); exact BK219.out), (by (with_reducible repeat (first|apply kN|apply kD|apply kA)); exact BK220.out), (by (with_reducible repeat (first|apply kN|apply kD|apply kA)); exact BK221.out), (by (with_reducible repeat (first|apply kN|apply kD|apply kA)); exact BK222.out), (by (with_reducible repeat (first|apply kN|apply kD|apply kA)); exact BK244.out), GW244.out, GE244.out, NB218_244.out, NB244_218.out, NB219_244.out, NB244_219.out, NB220_244.out, NB244_220.out, NB221_244.out, NB244_221.out, NB222_244.out, NB244_222.out, (by repeat (first | (with_reducible first|exact HB.out|apply bA|apply bN|apply bD|refine bS ?_ GE218.out|refine bS ?_ GE219.out|refine bS ?_ GE220.out|refine bS ?_ GE221.out|refine bS ?_ GE222.out|refine bS ?_ GE244.out)|exact HB.out))⟩)
     ·skip
      refine box_step ?hg (N := 10) ?hd (cs := #[.slice none 0 0, .slice none 0 0, .slice none 0 0, .slice none 0 0, .slice none 0 0, .slice none 0 0]) (t := 39) ?hr ?_; (case hd => rfl); (case hg => rfl); (case hr => first | (go_simp; done) | (go_simp; rfl))
      intro gb244 hg w30 hbox hb
      have n0_ := aM (blk_below (g := gb218) (o := .cells #[.slice A0_0 l0_0.length c0_0, .slice A0_1 l0_1.length c0_1] 26 (0, 0)) (by (with_reducible repeat (first|apply kN|apply kD|apply kA)); exact BK218.out) hb)
      have n1_ := aM (blk_below (g := gb219) (o := .cells #[.slice A1_0 l1_0.length c1_0, .slice A1_1 l1_1.length c1_1] 26 (0, 0)) (by (with_reducible repeat (first|apply kN|apply kD|apply kA)); exact BK219.out) hb)
      have n2_ := aM (blk_below (g := gb220) (o := .cells #[.slice A2_0 l2_0.length c2_0, .slice A2_1 l2_1.length c2_1] 26 (0, 0)) (by (with_reducible repeat (first|apply kN|apply kD|apply kA)); exact BK220.out) hb)
      have n3_ := aM (blk_below (g := gb221) (o := .cells #[.slice A3_0 l3_0.length c3_0, .slice A3_1 l3_1.length c3_1] 26 (0, 0)) (by (with_reducible repeat (first|apply kN|apply kD|apply kA)); exact BK221.out) hb)
      have n4_ := aM (blk_below (g := gb222) (o := .cells #[.slice none 0 0, .slice none 0 0, .slice none 0 0, .slice none 0 0, .slice none 0 0, .slice none 0 0] 39 (0, 0)) (by (with_reducible repeat (first|apply kN|apply kD|apply kA)); exact BK222.out) hb)
      have n5_ := aM (below_step (by repeat (first | (with_reducible first|exact HB.out|apply bA|apply bN|apply bD|refine bS ?_ GE218.out|refine bS ?_ GE219.out|refine bS ?_ GE220.out|refine bS ?_ GE221.out|refine bS ?_ GE222.out)|exact HB.out)) hb)
      have n6_ := aM (hbox)
      have n7_ := aM ((by rw [hg]; exact (below_size (by repeat (first | (with_reducible first|exact HB.out|apply bA|apply bN|apply bD|refine bS ?_ GE218.out|refine bS ?_ GE219.out|refine bS ?_ GE220.out|refine bS ?_ GE221.out|refine bS ?_ GE222.out)|exact HB.out))) : w.heap.size ≤ gb244))
      have n8_ := aM ((by rw [hg]; exact (below_size (by repeat (first | (with_reducible first|exact HB.out|apply bA|apply bN|apply bD|refine bS ?_ GE218.out|refine bS ?_ GE219.out|refine bS ?_ GE220.out|refine bS ?_ GE221.out|refine bS ?_ GE222.out)|exact HB.out))) : w.heap.size ≤ gb244))
      have n9_ := aM ((by rw [hg]; exact Nat.ne_of_lt (blk_lt (g := gb218) (o := .cells #[.slice A0_0 l0_0.length c0_0, .slice A0_1 l0_1.length c0_1] 26 (0, 0)) (by (with_reducible repeat (first|apply kN|apply kD|apply kA)); exact BK218.out)) : gb218 ≠ gb244))
      have n10_ := aM ((by rw [hg]; exact Nat.ne_of_gt (blk_lt (g := gb218) (o := .cells #[.slice A0_0 l0_0.length c0_0, .slice A0_1 l0_1.length c0_1] 26 (0, 0)) (by (with_reducible repeat (first|apply kN|apply kD|apply kA)); exact BK218.out)) : gb244 ≠ gb218))
      have n11_ := aM ((by rw [hg]; exact Nat.ne_of_lt (blk_lt (g := gb219) (o := .cells #[.slice A1_0 l1_0.length c1_0, .slice A1_1 l1_1.length c1_1] 26 (0, 0)) (by (with_reducible repeat (first|apply kN|apply kD|apply kA)); exact BK219.out)) : gb219 ≠ gb244))
      have n12_ := aM ((by rw [hg]; exact Nat.ne_of_gt (blk_lt (g := gb219) (o := .cells #[.slice A1_0 l1_0.length c1_0, .slice A1_1 l1_1.length c1_1] 26 (0, 0)) (by (with_reducible repeat (first|apply kN|apply kD|apply kA)); exact BK219.out)) : gb244 ≠ gb219))
      have n13_ := aM ((by rw [hg]; exact Nat.ne_of_lt (blk_lt (g := gb220) (o := .cells #[.slice A2_0 l2_0.length c2_0, .slice A2_1 l2_1.length c2_1] 26 (0, 0)) (by (with_reducible repeat (first|apply kN|apply kD|apply kA)); exact BK220.out)) : gb220 ≠ gb244))
      have n14_ := aM ((by rw [hg]; exact Nat.ne_of_gt (blk_lt (g := gb220) (o := .cells #[.slice A2_0 l2_0.length c2_0, .slice A2_1 l2_1.length c2_1] 26 (0, 0)) (by (with_reducible repeat (first|apply kN|apply kD|apply kA)); exact BK220.out)) : gb244 ≠ gb220))
      have n15_ := aM ((by rw [hg]; exact Nat.ne_of_lt (blk_lt (g := gb221) (o := .cells #[.slice A3_0 l3_0.length c3_0, .slice A3_1 l3_1.length c3_1] 26 (0, 0)) (by (with_reducible repeat (first|apply kN|apply kD|apply kA)); exact BK221.out)) : gb221 ≠ gb244))
      have n16_ := aM ((by rw [hg]; exact Nat.ne_of_gt (blk_lt (g := gb221) (o := .cells #[.slice A3_0 l3_0.length c3_0, .slice A3_1 l3_1.length c3_1] 26 (0, 0)) (by (with_reducible repeat (first|apply kN|apply kD|apply kA)); exact BK221.out)) : gb244 ≠ gb221))
      have n17_ := aM ((by rw [hg]; exact Nat.ne_of_lt (blk_lt (g := gb222) (o := .cells #[.slice none 0 0, .slice none 0 0, .slice none 0 0, .slice none 0 0, .slice none 0 0, .slice none 0 0] 39 (0, 0)) (by (with_reducible repeat (first|apply kN|apply kD|apply kA)); exact BK222.out)) : gb222 ≠ gb244))
      have n18_ := aM ((by rw [hg]; exact Nat.ne_of_gt (blk_lt (g := gb222) (o := .cells #[.slice none 0 0, .slice none 0 0, .slice none 0 0, .slice none 0 0, .slice none 0 0, .slice none 0 0] 39 (0, 0)) (by (with_reducible repeat (first|apply kN|apply kD|apply kA)); exact BK222.out)) : gb244 ≠ gb222))
      clear BK218
      clear BK219
      clear BK220
      clear BK221
      clear BK222
      clear HB
      have BK218 := n0_
      have BK219 := n1_
      have BK220 := n2_
      have BK221 := n3_
      have BK222 := n4_
      have HB := n5_
      have BK244 := n6_
      have GW244 := n7_
      have GE244 := n8_
      have NB218_244 := n9_
      have NB244_218 := n10_
      have NB219_244 := n11_
      have NB244_219 := n12_
      have NB220_244 := n13_
      have NB244_220 := n14_
      have NB221_244 := n15_
      have NB244_221 := n16_
      have NB222_244 := n17_
      have NB244_222 := n18_
      clear n0_ n1_ n2_ n3_ n4_ n5_ n6_ n7_ n8_ n9_ n10_ n11_ n12_ n13_ n14_ n15_ n16_ n17_ n18_
      clear hb hbox hg
      refine hK.out _ _ ⟨(blk_cell BK218.out 0).trans rfl, (blk_cell BK218.out 1).trans rfl, (blk_cell BK221.out 0).trans rfl, (blk_cell BK221.out 1).trans rfl, (blk_cell BK220.out 0).trans rfl, (blk_cell BK220.out 1).trans rfl⟩ (fun hHeld => ?_)
      clear hK K
      refine norm_ (a' := ?_) ?_ ?_
      rotate_left
      ·show Act.put _ (some 10) _ = _
       simp only [Act.put, List.setIfInBounds_toArray, List.set_cons_zero, List.set_cons_succ, i64_w, i32_w]
       rfl
      refine one_ (i := 1) (N := some 32) #[true, true, true, false, true, false, false, true, false] rfl rfl (one_of HT_.out (by kernel_rfl)) (by decide) (fun K hK => ?_)
      refine goes_ Try.func28 (by kernel_rfl) rfl #[.agg #[.slice A0_0 l0_0.length c0_0, .slice A0_1 l0_1.length c0_1]] (by rfl) rfl rfl (by (try simp only [List.map_toArray, List.map_cons, List.map_nil]); first | done | rfl | (simp only [List.length_drop, List.length_take]; rfl)) ?_
      with_reducible refine (tensor_Grid_fix_F_Copy.calls _ _ l0_0 _ _ l0_1 t226 t229 _ ?side1 ?side2 ?side3 ?side4 A26.out).mono ?_
      (case side1 => repeat (first|exact (Kd.C_below HR0_0.out HB.out) | with_reducible first|apply cA|apply cN|apply cD))
      (case side2 => exact HC0_0.out)
      (case side3 => repeat (first|exact (Kd.C_below HR0_1.out HB.out) | with_reducible first|apply cA|apply cN|apply cD))
      (case side4 => exact HC0_1.out)
      rintro e w31 ⟨v227, v230, rfl, ho0, ho1, hb⟩
      refine ⟨_, rfl, ?_⟩
      have n0_ := aM (Kd.R_lower ho0 (below_size (by repeat (first | (with_reducible first|exact HB.out|apply bA|apply bN|apply bD|refine bS ?_ GE218.out|refine bS ?_ GE219.out|refine bS ?_ GE220.out|refine bS ?_ GE221.out|refine bS ?_ GE222.out|refine bS ?_ GE244.out)|exact HB.out))))
      have n1_ := aM (Kd.R_lower ho1 (below_size (by repeat (first | (with_reducible first|exact HB.out|apply bA|apply bN|apply bD|refine bS ?_ GE218.out|refine bS ?_ GE219.out|refine bS ?_ GE220.out|refine bS ?_ GE221.out|refine bS ?_ GE222.out|refine bS ?_ GE244.out)|exact HB.out))))
      have n2_ := aM (blk_below (g := gb218) (o := .cells #[.slice A0_0 l0_0.length c0_0, .slice A0_1 l0_1.length c0_1] 26 (0, 0)) (by (with_reducible repeat (first|apply kN|apply kD|apply kA)); exact BK218.out) hb)
      have n3_ := aM (blk_below (g := gb219) (o := .cells #[.slice A1_0 l1_0.length c1_0, .slice A1_1 l1_1.length c1_1] 26 (0, 0)) (by (with_reducible repeat (first|apply kN|apply kD|apply kA)); exact BK219.out) hb)
      have n4_ := aM (blk_below (g := gb220) (o := .cells #[.slice A2_0 l2_0.length c2_0, .slice A2_1 l2_1.length c2_1] 26 (0, 0)) (by (with_reducible repeat (first|apply kN|apply kD|apply kA)); exact BK220.out) hb)
      have n5_ := aM (blk_below (g := gb221) (o := .cells #[.slice A3_0 l3_0.length c3_0, .slice A3_1 l3_1.length c3_1] 26 (0, 0)) (by (with_reducible repeat (first|apply kN|apply kD|apply kA)); exact BK221.out) hb)
      have n6_ := aM (blk_below (g := gb222) (o := .cells #[.slice none 0 0, .slice none 0 0, .slice none 0 0, .slice none 0 0, .slice none 0 0, .slice none 0 0] 39 (0, 0)) (by (with_reducible repeat (first|apply kN|apply kD|apply kA)); exact BK222.out) hb)
      have n7_ := aM (blk_below (g := gb244) (o := .cells #[.slice none 0 0, .slice none 0 0, .slice none 0 0, .slice none 0 0, .slice none 0 0, .slice none 0 0] 39 (0, 0)) (by (with_reducible repeat (first|apply kN|apply kD|apply kA)); exact BK244.out) hb)
      have n8_ := aM (below_step (by repeat (first | (with_reducible first|exact HB.out|apply bA|apply bN|apply bD|refine bS ?_ GE218.out|refine bS ?_ GE219.out|refine bS ?_ GE220.out|refine bS ?_ GE221.out|refine bS ?_ GE222.out|refine bS ?_ GE244.out)|exact HB.out)) hb)
      clear BK218
      clear BK219
      clear BK220
      clear BK221
      clear BK222
      clear BK244
      clear HB
      have HO228 := n0_
      have HO231 := n1_
      have BK218 := n2_
      have BK219 := n3_
      have BK220 := n4_
      have BK221 := n5_
      have BK222 := n6_
      have BK244 := n7_
      have HB := n8_
      clear n0_ n1_ n2_ n3_ n4_ n5_ n6_ n7_ n8_
      (try clear hb)
      skip
      (try clear hk)
      skip
      (try clear ho0)
      (try clear ho1)
      refine hK.out _ _ ⟨(blk_cell BK218.out 0).trans rfl, (blk_cell BK218.out 1).trans rfl, (blk_cell BK221.out 0).trans rfl, (blk_cell BK221.out 1).trans rfl, (blk_cell BK220.out 0).trans rfl, (blk_cell BK220.out 1).trans rfl⟩ (fun hHeld => ?_)
      clear hK K
      refine norm_ (a' := ?_) ?_ ?_
      rotate_left
      ·show Act.put _ (some 32) _ = _
       simp only [Act.put, List.setIfInBounds_toArray, List.set_cons_zero, List.set_cons_succ, i64_w, i32_w]
       rfl
      refine one_ (i := 3) (N := some 34) #[true, true, true, true, true, false, false, true, false] rfl rfl (one_of HT_.out (by kernel_rfl)) (by decide) (fun K hK => ?_)
      refine goes_ Try.func28 (by kernel_rfl) rfl #[.agg #[.slice A3_0 l3_0.length c3_0, .slice A3_1 l3_1.length c3_1]] (by rfl) rfl rfl (by (try simp only [List.map_toArray, List.map_cons, List.map_nil]); first | done | rfl | (simp only [List.length_drop, List.length_take]; rfl)) ?_
      with_reducible refine (tensor_Grid_fix_F_Copy.calls _ _ l3_0 _ _ l3_1 t232 t235 _ ?side1 ?side2 ?side3 ?side4 A27.out).mono ?_
      (case side1 => repeat (first|exact (Kd.C_below HR3_0.out HB.out) | with_reducible first|apply cA|apply cN|apply cD))
      (case side2 => exact HC3_0.out)
      (case side3 => repeat (first|exact (Kd.C_below HR3_1.out HB.out) | with_reducible first|apply cA|apply cN|apply cD))
      (case side4 => exact HC3_1.out)
      rintro e w32 ⟨v233, v236, rfl, ho0, ho1, hb⟩
      refine ⟨_, rfl, ?_⟩
      have n0_ := aM (Kd.R_elder' (by (with_reducible repeat (first|apply rA|apply rN|apply rD)); exact HO228.out) (Kd.R_base ho0) hb)
      have n1_ := aM (Kd.R_elder' (by (with_reducible repeat (first|apply rA|apply rN|apply rD)); exact HO231.out) (Kd.R_base ho1) hb)
      have n2_ := aM (Kd.R_lower (Kd.R_new' ho0 (Kd.R_lt (by (with_reducible repeat (first|apply rA|apply rN|apply rD)); exact HO228.out))) (below_size (by repeat (first | (with_reducible first|exact HB.out|apply bA|apply bN|apply bD|refine bS ?_ GE218.out|refine bS ?_ GE219.out|refine bS ?_ GE220.out|refine bS ?_ GE221.out|refine bS ?_ GE222.out|refine bS ?_ GE244.out)|exact HB.out))))
      have n3_ := aM (Kd.R_lower (Kd.R_new' ho1 (Kd.R_lt (by (with_reducible repeat (first|apply rA|apply rN|apply rD)); exact HO231.out))) (below_size (by repeat (first | (with_reducible first|exact HB.out|apply bA|apply bN|apply bD|refine bS ?_ GE218.out|refine bS ?_ GE219.out|refine bS ?_ GE220.out|refine bS ?_ GE221.out|refine bS ?_ GE222.out|refine bS ?_ GE244.out)|exact HB.out))))
      have n4_ := aM (blk_below (g := gb218) (o := .cells #[.slice A0_0 l0_0.length c0_0, .slice A0_1 l0_1.length c0_1] 26 (0, 0)) (by (with_reducible repeat (first|apply kN|apply kD|apply kA)); exact BK218.out) hb)
      have n5_ := aM (blk_below (g := gb219) (o := .cells #[.slice A1_0 l1_0.length c1_0, .slice A1_1 l1_1.length c1_1] 26 (0, 0)) (by (with_reducible repeat (first|apply kN|apply kD|apply kA)); exact BK219.out) hb)
      have n6_ := aM (blk_below (g := gb220) (o := .cells #[.slice A2_0 l2_0.length c2_0, .slice A2_1 l2_1.length c2_1] 26 (0, 0)) (by (with_reducible repeat (first|apply kN|apply kD|apply kA)); exact BK220.out) hb)
      have n7_ := aM (blk_below (g := gb221) (o := .cells #[.slice A3_0 l3_0.length c3_0, .slice A3_1 l3_1.length c3_1] 26 (0, 0)) (by (with_reducible repeat (first|apply kN|apply kD|apply kA)); exact BK221.out) hb)
      have n8_ := aM (blk_below (g := gb222) (o := .cells #[.slice none 0 0, .slice none 0 0, .slice none 0 0, .slice none 0 0, .slice none 0 0, .slice none 0 0] 39 (0, 0)) (by (with_reducible repeat (first|apply kN|apply kD|apply kA)); exact BK222.out) hb)
      have n9_ := aM (blk_below (g := gb244) (o := .cells #[.slice none 0 0, .slice none 0 0, .slice none 0 0, .slice none 0 0, .slice none 0 0, .slice none 0 0] 39 (0, 0)) (by (with_reducible repeat (first|apply kN|apply kD|apply kA)); exact BK244.out) hb)
      have n10_ := aM (below_step (by repeat (first | (with_reducible first|exact HB.out|apply bA|apply bN|apply bD|refine bS ?_ GE218.out|refine bS ?_ GE219.out|refine bS ?_ GE220.out|refine bS ?_ GE221.out|refine bS ?_ GE222.out|refine bS ?_ GE244.out)|exact HB.out)) hb)
      clear HO228
      clear HO231
      clear BK218
      clear BK219
      clear BK220
      clear BK221
      clear BK222
      clear BK244
      clear HB
      have HO228 := n0_
      have HO231 := n1_
      have HO234 := n2_
      have HO237 := n3_
      have BK218 := n4_
      have BK219 := n5_
      have BK220 := n6_
      have BK221 := n7_
      have BK222 := n8_
      have BK244 := n9_
      have HB := n10_
      clear n0_ n1_ n2_ n3_ n4_ n5_ n6_ n7_ n8_ n9_ n10_
      (try clear hb)
      skip
      (try clear hk)
      skip
      (try clear ho0)
      (try clear ho1)
      refine hK.out _ _ ⟨(blk_cell BK218.out 0).trans rfl, (blk_cell BK218.out 1).trans rfl, (blk_cell BK221.out 0).trans rfl, (blk_cell BK221.out 1).trans rfl, (blk_cell BK220.out 0).trans rfl, (blk_cell BK220.out 1).trans rfl⟩ (fun hHeld => ?_)
      clear hK K
      refine norm_ (a' := ?_) ?_ ?_
      rotate_left
      ·show Act.put _ (some 34) _ = _
       simp only [Act.put, List.setIfInBounds_toArray, List.set_cons_zero, List.set_cons_succ, i64_w, i32_w]
       rfl
      refine one_ (i := 5) (N := some 36) #[true, true, true, true, true, true, false, true, false] rfl rfl (one_of HT_.out (by kernel_rfl)) (by decide) (fun K hK => ?_)
      refine goes_ Try.func28 (by kernel_rfl) rfl #[.agg #[.slice A2_0 l2_0.length c2_0, .slice A2_1 l2_1.length c2_1]] (by rfl) rfl rfl (by (try simp only [List.map_toArray, List.map_cons, List.map_nil]); first | done | rfl | (simp only [List.length_drop, List.length_take]; rfl)) ?_
      with_reducible refine (tensor_Grid_fix_F_Copy.calls _ _ l2_0 _ _ l2_1 t238 t241 _ ?side1 ?side2 ?side3 ?side4 A28.out).mono ?_
      (case side1 => repeat (first|exact (Kd.C_below HR2_0.out HB.out) | with_reducible first|apply cA|apply cN|apply cD))
      (case side2 => exact HC2_0.out)
      (case side3 => repeat (first|exact (Kd.C_below HR2_1.out HB.out) | with_reducible first|apply cA|apply cN|apply cD))
      (case side4 => exact HC2_1.out)
      rintro e w33 ⟨v239, v242, rfl, ho0, ho1, hb⟩
      refine ⟨_, rfl, ?_⟩
      have n0_ := aM (Kd.R_elder' (by (with_reducible repeat (first|apply rA|apply rN|apply rD)); exact HO228.out) (Kd.R_base ho0) hb)
      have n1_ := aM (Kd.R_elder' (by (with_reducible repeat (first|apply rA|apply rN|apply rD)); exact HO231.out) (Kd.R_base ho1) hb)
      have n2_ := aM (Kd.R_elder' (by (with_reducible repeat (first|apply rA|apply rN|apply rD)); exact HO234.out) (Kd.R_base ho0) hb)
      have n3_ := aM (Kd.R_elder' (by (with_reducible repeat (first|apply rA|apply rN|apply rD)); exact HO237.out) (Kd.R_base ho1) hb)
      have n4_ := aM (Kd.R_lower (Kd.R_new' (Kd.R_new' ho0 (Kd.R_lt (by (with_reducible repeat (first|apply rA|apply rN|apply rD)); exact HO228.out))) (Kd.R_lt (by (with_reducible repeat (first|apply rA|apply rN|apply rD)); exact HO234.out))) (below_size (by repeat (first | (with_reducible first|exact HB.out|apply bA|apply bN|apply bD|refine bS ?_ GE218.out|refine bS ?_ GE219.out|refine bS ?_ GE220.out|refine bS ?_ GE221.out|refine bS ?_ GE222.out|refine bS ?_ GE244.out)|exact HB.out))))
      have n5_ := aM (Kd.R_lower (Kd.R_new' (Kd.R_new' ho1 (Kd.R_lt (by (with_reducible repeat (first|apply rA|apply rN|apply rD)); exact HO231.out))) (Kd.R_lt (by (with_reducible repeat (first|apply rA|apply rN|apply rD)); exact HO237.out))) (below_size (by repeat (first | (with_reducible first|exact HB.out|apply bA|apply bN|apply bD|refine bS ?_ GE218.out|refine bS ?_ GE219.out|refine bS ?_ GE220.out|refine bS ?_ GE221.out|refine bS ?_ GE222.out|refine bS ?_ GE244.out)|exact HB.out))))
      have n6_ := aM (blk_below (g := gb218) (o := .cells #[.slice A0_0 l0_0.length c0_0, .slice A0_1 l0_1.length c0_1] 26 (0, 0)) (by (with_reducible repeat (first|apply kN|apply kD|apply kA)); exact BK218.out) hb)
      have n7_ := aM (blk_below (g := gb219) (o := .cells #[.slice A1_0 l1_0.length c1_0, .slice A1_1 l1_1.length c1_1] 26 (0, 0)) (by (with_reducible repeat (first|apply kN|apply kD|apply kA)); exact BK219.out) hb)
      have n8_ := aM (blk_below (g := gb220) (o := .cells #[.slice A2_0 l2_0.length c2_0, .slice A2_1 l2_1.length c2_1] 26 (0, 0)) (by (with_reducible repeat (first|apply kN|apply kD|apply kA)); exact BK220.out) hb)
      have n9_ := aM (blk_below (g := gb221) (o := .cells #[.slice A3_0 l3_0.length c3_0, .slice A3_1 l3_1.length c3_1] 26 (0, 0)) (by (with_reducible repeat (first|apply kN|apply kD|apply kA)); exact BK221.out) hb)
      have n10_ := aM (blk_below (g := gb222) (o := .cells #[.slice none 0 0, .slice none 0 0, .slice none 0 0, .slice none 0 0, .slice none 0 0, .slice none 0 0] 39 (0, 0)) (by (with_reducible repeat (first|apply kN|apply kD|apply kA)); exact BK222.out) hb)
      have n11_ := aM (blk_below (g := gb244) (o := .cells #[.slice none 0 0, .slice none 0 0, .slice none 0 0, .slice none 0 0, .slice none 0 0, .slice none 0 0] 39 (0, 0)) (by (with_reducible repeat (first|apply kN|apply kD|apply kA)); exact BK244.out) hb)
      have n12_ := aM (below_step (by repeat (first | (with_reducible first|exact HB.out|apply bA|apply bN|apply bD|refine bS ?_ GE218.out|refine bS ?_ GE219.out|refine bS ?_ GE220.out|refine bS ?_ GE221.out|refine bS ?_ GE222.out|refine bS ?_ GE244.out)|exact HB.out)) hb)
      clear HO228
      clear HO231
      clear HO234
      clear HO237
      clear BK218
      clear BK219
      clear BK220
      clear BK221
      clear BK222
      clear BK244
      clear HB
      have HO228 := n0_
      have HO231 := n1_
      have HO234 := n2_
      have HO237 := n3_
      have HO240 := n4_
      have HO243 := n5_
      have BK218 := n6_
      have BK219 := n7_
      have BK220 := n8_
      have BK221 := n9_
      have BK222 := n10_
      have BK244 := n11_
      have HB := n12_
      clear n0_ n1_ n2_ n3_ n4_ n5_ n6_ n7_ n8_ n9_ n10_ n11_ n12_
      (try clear hb)
      skip
      (try clear hk)
      skip
      (try clear ho0)
      (try clear ho1)
      obtain ⟨Ao34, co34, eo34⟩ := Kd.R_slice HO243.out
      (first | subst eo34 | (injection eo34 with f1_ f2_ f3_; have f4_ := f1_.symm; have f5_ := f3_.symm; clear f1_ f2_ f3_; subst f4_; subst f5_))
      obtain ⟨Ao35, co35, eo35⟩ := Kd.R_slice HO240.out
      (first | subst eo35 | (injection eo35 with f1_ f2_ f3_; have f4_ := f1_.symm; have f5_ := f3_.symm; clear f1_ f2_ f3_; subst f4_; subst f5_))
      obtain ⟨Ao36, co36, eo36⟩ := Kd.R_slice HO237.out
      (first | subst eo36 | (injection eo36 with f1_ f2_ f3_; have f4_ := f1_.symm; have f5_ := f3_.symm; clear f1_ f2_ f3_; subst f4_; subst f5_))
      obtain ⟨Ao37, co37, eo37⟩ := Kd.R_slice HO234.out
      (first | subst eo37 | (injection eo37 with f1_ f2_ f3_; have f4_ := f1_.symm; have f5_ := f3_.symm; clear f1_ f2_ f3_; subst f4_; subst f5_))
      obtain ⟨Ao38, co38, eo38⟩ := Kd.R_slice HO231.out
      (first | subst eo38 | (injection eo38 with f1_ f2_ f3_; have f4_ := f1_.symm; have f5_ := f3_.symm; clear f1_ f2_ f3_; subst f4_; subst f5_))
      obtain ⟨Ao39, co39, eo39⟩ := Kd.R_slice HO228.out
      (first | subst eo39 | (injection eo39 with f1_ f2_ f3_; have f4_ := f1_.symm; have f5_ := f3_.symm; clear f1_ f2_ f3_; subst f4_; subst f5_))
      refine hK.out _ _ ⟨(blk_cell BK218.out 0).trans rfl, (blk_cell BK218.out 1).trans rfl, (blk_cell BK221.out 0).trans rfl, (blk_cell BK221.out 1).trans rfl, (blk_cell BK220.out 0).trans rfl, (blk_cell BK220.out 1).trans rfl⟩ (fun hHeld => ?_)
      clear hK K
      refine norm_ (a' := ?_) ?_ ?_
      rotate_left
      ·show Act.put _ (some 36) _ = _
       simp only [Act.put, List.setIfInBounds_toArray, List.set_cons_zero, List.set_cons_succ, i64_w, i32_w]
       rfl
      refine pure_ (i := 6) (N := some 37) (v := ?_) (a' := ?_) #[true, true, true, true, true, true, true, true, false] rfl rfl (any_of HT_.out (by kernel_rfl)) (fun _ _ _ h => h) (Or.inl ⟨by rfl, ?_⟩) ?_ ?_
      rotate_left
      ·intro w'
       go_simp
       with_reducible rfl
      rotate_left
      ·simp only [Act.put, List.setIfInBounds_toArray, List.set_cons_zero, List.set_cons_succ, i64_w, i32_w]
       rfl
      exact norm_ (by simp only [putAll, Act.put, List.setIfInBounds_toArray, List.set_cons_zero, List.set_cons_succ]) (hCont (.slice Ao39 t226.length co39, .slice Ao38 t229.length co38, .slice Ao37 t232.length co37, .slice Ao36 t235.length co36, .slice Ao35 t238.length co35, .slice Ao34 t241.length co34, gb244) _ ⟨hHeld, (by (with_reducible repeat (first|apply rA|apply rN|apply rD)); exact Kd.R_mono HO228.out (fun _ hk => ⟨hk.1.2, hk.2⟩)), (by (with_reducible repeat (first|apply rA|apply rN|apply rD)); exact Kd.R_mono HO231.out (fun _ hk => ⟨hk.1.2, hk.2⟩)), (by (with_reducible repeat (first|apply rA|apply rN|apply rD)); exact Kd.R_mono HO234.out (fun _ hk => ⟨hk.1.2, hk.2⟩)), (by (with_reducible repeat (first|apply rA|apply rN|apply rD)); exact Kd.R_mono HO237.out (fun _ hk => ⟨hk.1.2, hk.2⟩)), (by (with_reducible repeat (first|apply rA|apply rN|apply rD)); exact Kd.R_mono HO240.out (fun _ hk => ⟨hk.1.2, hk.2⟩)), (by (with_reducible repeat (first|apply rA|apply rN|apply rD)); exact Kd.R_mono HO243.out (fun _ hk => ⟨hk.1.2, hk.2⟩)), (by (with_reducible repeat (first|apply kN|apply kD|apply kA)); exact BK218.out), (by (with_reducible repeat (first|apply kN|apply kD|apply kA)); exact BK219.out), (by (with_reducible repeat (first|apply kN|apply kD|apply kA)); exact BK220.out), (by (with_reducible repeat (first|apply kN|apply kD|apply kA)); exact BK221.out), (by (with_reducible repeat (first|apply kN|apply kD|apply kA)); exact BK222.out), (by (with_reducible repeat (first|apply kN|apply kD|apply kA)); exact BK244.out), GW244.out, GE244.out, NB218_244.out, NB244_218.out, NB219_244.out, NB244_219.out, NB220_244.out, NB244_220.out, NB221_244.out, NB244_221.out, NB222_244.out, NB244_222.out, (by repeat (first | (with_reducible first|exact HB.out|apply bA|apply bN|apply bD|refine bS ?_ GE218.out|refine bS ?_ GE219.out|refine bS ?_ GE220.out|refine bS ?_ GE221.out|refine bS ?_ GE222.out|refine bS ?_ GE244.out)|exact HB.out))⟩)
    rintro ⟨v227, v230, v233, v236, v239, v242, gb244⟩ w40 ⟨hS_, h0_, h1_, h2_, h3_, h4_, h5_, h6_, h7_, h8_, h9_, h10_, h11_, h12_, h13_, h14_, h15_, h16_, h17_, h18_, h19_, h20_, h21_, h22_, h23_, h24_⟩
    have n0_ : Aside0 (Kd.R (Kd.int .i64) 3 w40 w.heap.size (fun k_ => some k_ ≠ (v233 : Value).ownBlock ∧ some k_ ≠ (v239 : Value).ownBlock) v227 t226) := ⟨h0_⟩
    have n1_ : Aside0 (Kd.R (Kd.int .i64) 47 w40 w.heap.size (fun k_ => some k_ ≠ (v236 : Value).ownBlock ∧ some k_ ≠ (v242 : Value).ownBlock) v230 t229) := ⟨h1_⟩
    have n2_ : Aside0 (Kd.R (Kd.int .i64) 3 w40 w.heap.size (fun k_ => some k_ ≠ (v227 : Value).ownBlock ∧ some k_ ≠ (v239 : Value).ownBlock) v233 t232) := ⟨h2_⟩
    have n3_ : Aside0 (Kd.R (Kd.int .i64) 47 w40 w.heap.size (fun k_ => some k_ ≠ (v230 : Value).ownBlock ∧ some k_ ≠ (v242 : Value).ownBlock) v236 t235) := ⟨h3_⟩
    have n4_ : Aside0 (Kd.R (Kd.int .i64) 3 w40 w.heap.size (fun k_ => some k_ ≠ (v227 : Value).ownBlock ∧ some k_ ≠ (v233 : Value).ownBlock) v239 t238) := ⟨h4_⟩
    have n5_ : Aside0 (Kd.R (Kd.int .i64) 47 w40 w.heap.size (fun k_ => some k_ ≠ (v230 : Value).ownBlock ∧ some k_ ≠ (v236 : Value).ownBlock) v242 t241) := ⟨h5_⟩
    have n6_ : Aside0 (w40.heap[gb218]? = some (.cells #[.slice A0_0 l0_0.length c0_0, .slice A0_1 l0_1.length c0_1] 26 (0, 0))) := ⟨h6_⟩
    have n7_ : Aside0 (w40.heap[gb219]? = some (.cells #[.slice A1_0 l1_0.length c1_0, .slice A1_1 l1_1.length c1_1] 26 (0, 0))) := ⟨h7_⟩
    have n8_ : Aside0 (w40.heap[gb220]? = some (.cells #[.slice A2_0 l2_0.length c2_0, .slice A2_1 l2_1.length c2_1] 26 (0, 0))) := ⟨h8_⟩
    have n9_ : Aside0 (w40.heap[gb221]? = some (.cells #[.slice A3_0 l3_0.length c3_0, .slice A3_1 l3_1.length c3_1] 26 (0, 0))) := ⟨h9_⟩
    have n10_ : Aside0 (w40.heap[gb222]? = some (.cells #[.slice none 0 0, .slice none 0 0, .slice none 0 0, .slice none 0 0, .slice none 0 0, .slice none 0 0] 39 (0, 0))) := ⟨h10_⟩
    have n11_ : Aside0 (w40.heap[gb244]? = some (.cells #[.slice none 0 0, .slice none 0 0, .slice none 0 0, .slice none 0 0, .slice none 0 0, .slice none 0 0] 39 (0, 0))) := ⟨h11_⟩
    have n12_ : Aside0 (w.heap.size ≤ gb244) := ⟨h12_⟩
    have n13_ : Aside0 (w.heap.size ≤ gb244) := ⟨h13_⟩
    have n14_ : Aside0 (gb218 ≠ gb244) := ⟨h14_⟩
    have n15_ : Aside0 (gb244 ≠ gb218) := ⟨h15_⟩
    have n16_ : Aside0 (gb219 ≠ gb244) := ⟨h16_⟩
    have n17_ : Aside0 (gb244 ≠ gb219) := ⟨h17_⟩
    have n18_ : Aside0 (gb220 ≠ gb244) := ⟨h18_⟩
    have n19_ : Aside0 (gb244 ≠ gb220) := ⟨h19_⟩
    have n20_ : Aside0 (gb221 ≠ gb244) := ⟨h20_⟩
    have n21_ : Aside0 (gb244 ≠ gb221) := ⟨h21_⟩
    have n22_ : Aside0 (gb222 ≠ gb244) := ⟨h22_⟩
    have n23_ : Aside0 (gb244 ≠ gb222) := ⟨h23_⟩
    have n24_ : Aside0 (Below w.heap.size w w40) := ⟨h24_⟩
    clear BK218
    clear BK219
    clear BK220
    clear BK221
    clear BK222
    clear HB
    clear h0_ h1_ h2_ h3_ h4_ h5_ h6_ h7_ h8_ h9_ h10_ h11_ h12_ h13_ h14_ h15_ h16_ h17_ h18_ h19_ h20_ h21_ h22_ h23_ h24_
    have HO228 := n0_
    have HO231 := n1_
    have HO234 := n2_
    have HO237 := n3_
    have HO240 := n4_
    have HO243 := n5_
    have BK218 := n6_
    have BK219 := n7_
    have BK220 := n8_
    have BK221 := n9_
    have BK222 := n10_
    have BK244 := n11_
    have GW244 := n12_
    have GE244 := n13_
    have NB218_244 := n14_
    have NB244_218 := n15_
    have NB219_244 := n16_
    have NB244_219 := n17_
    have NB220_244 := n18_
    have NB244_220 := n19_
    have NB221_244 := n20_
    have NB244_221 := n21_
    have NB222_244 := n22_
    have NB244_222 := n23_
    have HB := n24_
    clear n0_ n1_ n2_ n3_ n4_ n5_ n6_ n7_ n8_ n9_ n10_ n11_ n12_ n13_ n14_ n15_ n16_ n17_ n18_ n19_ n20_ n21_ n22_ n23_ n24_
    have hHeld : w40.cell? ⟨gb218, 0, none⟩ = some (.slice A0_0 l0_0.length c0_0) ∧ w40.cell? ⟨gb218, 1, none⟩ = some (.slice A0_1 l0_1.length c0_1) ∧ w40.cell? ⟨gb221, 0, none⟩ = some (.slice A3_0 l3_0.length c3_0) ∧ w40.cell? ⟨gb221, 1, none⟩ = some (.slice A3_1 l3_1.length c3_1) ∧ w40.cell? ⟨gb220, 0, none⟩ = some (.slice A2_0 l2_0.length c2_0) ∧ w40.cell? ⟨gb220, 1, none⟩ = some (.slice A2_1 l2_1.length c2_1) := hS_
    obtain ⟨Ao41, co41, eo41⟩ := Kd.R_slice HO243.out
    (first | subst eo41 | (injection eo41 with f1_ f2_ f3_; have f4_ := f1_.symm; have f5_ := f3_.symm; clear f1_ f2_ f3_; subst f4_; subst f5_))
    obtain ⟨Ao42, co42, eo42⟩ := Kd.R_slice HO240.out
    (first | subst eo42 | (injection eo42 with f1_ f2_ f3_; have f4_ := f1_.symm; have f5_ := f3_.symm; clear f1_ f2_ f3_; subst f4_; subst f5_))
    obtain ⟨Ao43, co43, eo43⟩ := Kd.R_slice HO237.out
    (first | subst eo43 | (injection eo43 with f1_ f2_ f3_; have f4_ := f1_.symm; have f5_ := f3_.symm; clear f1_ f2_ f3_; subst f4_; subst f5_))
    obtain ⟨Ao44, co44, eo44⟩ := Kd.R_slice HO234.out
    (first | subst eo44 | (injection eo44 with f1_ f2_ f3_; have f4_ := f1_.symm; have f5_ := f3_.symm; clear f1_ f2_ f3_; subst f4_; subst f5_))
    obtain ⟨Ao45, co45, eo45⟩ := Kd.R_slice HO231.out
    (first | subst eo45 | (injection eo45 with f1_ f2_ f3_; have f4_ := f1_.symm; have f5_ := f3_.symm; clear f1_ f2_ f3_; subst f4_; subst f5_))
    obtain ⟨Ao46, co46, eo46⟩ := Kd.R_slice HO228.out
    (first | subst eo46 | (injection eo46 with f1_ f2_ f3_; have f4_ := f1_.symm; have f5_ := f3_.symm; clear f1_ f2_ f3_; subst f4_; subst f5_))
    refine norm_ (a' := ?_) ?_ ?_
    rotate_left
    ·simp only [putAll, Act.put, List.setIfInBounds_toArray, List.set_cons_zero, List.set_cons_succ]
     rfl
    refine one_ (i := 8) (N := none) #[true, true, true, true, true, true, true, true, true] rfl rfl (one_of HT_.out (by kernel_rfl)) (by decide) (fun K hK => ?_)
    have hs47 : w40.cell? ⟨gb244, 0, none⟩ = some (.slice none 0 0) := (blk_cell BK244.out 0).trans rfl
    have hfs47 := blk_frozen BK244.out 0
    have hns47_0 := NB218_244.out
    have hns47_1 := NB219_244.out
    have hns47_2 := NB220_244.out
    have hns47_3 := NB221_244.out
    have hns47_4 := NB222_244.out
    have hms47_0 := NB244_218.out
    have hms47_1 := NB244_219.out
    have hms47_2 := NB244_220.out
    have hms47_3 := NB244_221.out
    have hms47_4 := NB244_222.out
    have hs48 : w40.cell? ⟨gb244, 1, none⟩ = some (.slice none 0 0) := (blk_cell BK244.out 1).trans rfl
    have hfs48 := blk_frozen BK244.out 1
    have hns48_0 := NB218_244.out
    have hns48_1 := NB219_244.out
    have hns48_2 := NB220_244.out
    have hns48_3 := NB221_244.out
    have hns48_4 := NB222_244.out
    have hms48_0 := NB244_218.out
    have hms48_1 := NB244_219.out
    have hms48_2 := NB244_220.out
    have hms48_3 := NB244_221.out
    have hms48_4 := NB244_222.out
    have hs49 : w40.cell? ⟨gb244, 2, none⟩ = some (.slice none 0 0) := (blk_cell BK244.out 2).trans rfl
    have hfs49 := blk_frozen BK244.out 2
    have hns49_0 := NB218_244.out
    have hns49_1 := NB219_244.out
    have hns49_2 := NB220_244.out
    have hns49_3 := NB221_244.out
    have hns49_4 := NB222_244.out
    have hms49_0 := NB244_218.out
    have hms49_1 := NB244_219.out
    have hms49_2 := NB244_220.out
    have hms49_3 := NB244_221.out
    have hms49_4 := NB244_222.out
    have hs50 : w40.cell? ⟨gb244, 3, none⟩ = some (.slice none 0 0) := (blk_cell BK244.out 3).trans rfl
    have hfs50 := blk_frozen BK244.out 3
    have hns50_0 := NB218_244.out
    have hns50_1 := NB219_244.out
    have hns50_2 := NB220_244.out
    have hns50_3 := NB221_244.out
    have hns50_4 := NB222_244.out
    have hms50_0 := NB244_218.out
    have hms50_1 := NB244_219.out
    have hms50_2 := NB244_220.out
    have hms50_3 := NB244_221.out
    have hms50_4 := NB244_222.out
    have hs51 : w40.cell? ⟨gb244, 4, none⟩ = some (.slice none 0 0) := (blk_cell BK244.out 4).trans rfl
    have hfs51 := blk_frozen BK244.out 4
    have hns51_0 := NB218_244.out
    have hns51_1 := NB219_244.out
    have hns51_2 := NB220_244.out
    have hns51_3 := NB221_244.out
    have hns51_4 := NB222_244.out
    have hms51_0 := NB244_218.out
    have hms51_1 := NB244_219.out
    have hms51_2 := NB244_220.out
    have hms51_3 := NB244_221.out
    have hms51_4 := NB244_222.out
    have hs52 : w40.cell? ⟨gb244, 5, none⟩ = some (.slice none 0 0) := (blk_cell BK244.out 5).trans rfl
    have hfs52 := blk_frozen BK244.out 5
    have hns52_0 := NB218_244.out
    have hns52_1 := NB219_244.out
    have hns52_2 := NB220_244.out
    have hns52_3 := NB221_244.out
    have hns52_4 := NB222_244.out
    have hms52_0 := NB244_218.out
    have hms52_1 := NB244_219.out
    have hms52_2 := NB244_220.out
    have hms52_3 := NB244_221.out
    have hms52_4 := NB244_222.out
    refine skip_ (w1 := ?_) (by rfl) rfl ?_ ?_
    rotate_left
    ·go_simp
     rfl
    refine hK.out _ _ ⟨((cell_far (p := ⟨gb244, _, none⟩) NB218_244.out _).trans (((cell_far (p := ⟨gb244, _, none⟩) NB218_244.out _).trans (((cell_far (p := ⟨gb244, _, none⟩) NB218_244.out _).trans (((cell_far (p := ⟨gb244, _, none⟩) NB218_244.out _).trans (((cell_far (p := ⟨gb244, _, none⟩) NB218_244.out _).trans (((cell_far (p := ⟨gb244, _, none⟩) NB218_244.out _).trans (hHeld.1)))))))))))), ((cell_far (p := ⟨gb244, _, none⟩) NB218_244.out _).trans (((cell_far (p := ⟨gb244, _, none⟩) NB218_244.out _).trans (((cell_far (p := ⟨gb244, _, none⟩) NB218_244.out _).trans (((cell_far (p := ⟨gb244, _, none⟩) NB218_244.out _).trans (((cell_far (p := ⟨gb244, _, none⟩) NB218_244.out _).trans (((cell_far (p := ⟨gb244, _, none⟩) NB218_244.out _).trans (hHeld.2.1)))))))))))), ((cell_far (p := ⟨gb244, _, none⟩) NB221_244.out _).trans (((cell_far (p := ⟨gb244, _, none⟩) NB221_244.out _).trans (((cell_far (p := ⟨gb244, _, none⟩) NB221_244.out _).trans (((cell_far (p := ⟨gb244, _, none⟩) NB221_244.out _).trans (((cell_far (p := ⟨gb244, _, none⟩) NB221_244.out _).trans (((cell_far (p := ⟨gb244, _, none⟩) NB221_244.out _).trans (hHeld.2.2.1)))))))))))), ((cell_far (p := ⟨gb244, _, none⟩) NB221_244.out _).trans (((cell_far (p := ⟨gb244, _, none⟩) NB221_244.out _).trans (((cell_far (p := ⟨gb244, _, none⟩) NB221_244.out _).trans (((cell_far (p := ⟨gb244, _, none⟩) NB221_244.out _).trans (((cell_far (p := ⟨gb244, _, none⟩) NB221_244.out _).trans (((cell_far (p := ⟨gb244, _, none⟩) NB221_244.out _).trans (hHeld.2.2.2.1)))))))))))), ((cell_far (p := ⟨gb244, _, none⟩) NB220_244.out _).trans (((cell_far (p := ⟨gb244, _, none⟩) NB220_244.out _).trans (((cell_far (p := ⟨gb244, _, none⟩) NB220_244.out _).trans (((cell_far (p := ⟨gb244, _, none⟩) NB220_244.out _).trans (((cell_far (p := ⟨gb244, _, none⟩) NB220_244.out _).trans (((cell_far (p := ⟨gb244, _, none⟩) NB220_244.out _).trans (hHeld.2.2.2.2.1)))))))))))), ((cell_far (p := ⟨gb244, _, none⟩) NB220_244.out _).trans (((cell_far (p := ⟨gb244, _, none⟩) NB220_244.out _).trans (((cell_far (p := ⟨gb244, _, none⟩) NB220_244.out _).trans (((cell_far (p := ⟨gb244, _, none⟩) NB220_244.out _).trans (((cell_far (p := ⟨gb244, _, none⟩) NB220_244.out _).trans (((cell_far (p := ⟨gb244, _, none⟩) NB220_244.out _).trans (hHeld.2.2.2.2.2))))))))))))⟩ (fun hHeld => ?_)
    clear hK K
    refine done_ (done_of HT_.out (by kernel_rfl)) ?_
    have hnb53 := NB221_218.out
    have hnc53 := NB218_221.out
    have hnb54 := NB221_219.out
    have hnc54 := NB219_221.out
    have hnb55 := NB221_220.out
    have hnc55 := NB220_221.out
    have hnb56 := NB221_222.out
    have hnc56 := NB222_221.out
    have hnb57 := NB221_244.out
    have hnc57 := NB244_221.out
    have hcz58_0 : w40.cell? ⟨gb221, 0, none⟩ = some (.slice A3_0 l3_0.length c3_0) := (blk_cell BK221.out 0).trans rfl
    have hcz58_1 : w40.cell? ⟨gb221, 1, none⟩ = some (.slice A3_1 l3_1.length c3_1) := (blk_cell BK221.out 1).trans rfl
    have hfz58_0 := blk_frozen BK221.out 0
    have hfz58_1 := blk_frozen BK221.out 1
    try go_wp2
    go_loopg [41] kj4 (fun kq v41 w' => ∃ (x41_2 : Int) (x245001_2 : List Int) (x245003_2 : List Int) (x245005_2 : List Int) (u245001 : Value) (u245003 : Value) (u245005 : Value), v41 = .int .i64 x41_2 ∧ Aside0 (dense_Back.l0 kq l3_1 (l3_1.length : Int) x41_2 l0_0 l0_1 l2_0 l2_1 l3_0 l3_1 t226 x245001_2 t232 x245003_2 t238 x245005_2 = some (r1, r2, r3, r4, r5, r6, r7)) ∧ Aside0 (kq ≤ kj4) ∧ Aside0 (Kd.R (Kd.int .i64) 3 w' w.heap.size (fun k_ => some k_ ≠ ((.slice Ao44 t232.length co44) : Value).ownBlock ∧ some k_ ≠ ((.slice Ao42 t238.length co42) : Value).ownBlock) (.slice Ao46 t226.length co46) t226) ∧ Aside0 (Kd.R (Kd.int .i64) 47 w' w.heap.size (fun k_ => some k_ ≠ (u245003 : Value).ownBlock ∧ some k_ ≠ (u245005 : Value).ownBlock) u245001 x245001_2) ∧ Aside0 (Kd.R (Kd.int .i64) 3 w' w.heap.size (fun k_ => some k_ ≠ ((.slice Ao46 t226.length co46) : Value).ownBlock ∧ some k_ ≠ ((.slice Ao42 t238.length co42) : Value).ownBlock) (.slice Ao44 t232.length co44) t232) ∧ Aside0 (Kd.R (Kd.int .i64) 47 w' w.heap.size (fun k_ => some k_ ≠ (u245001 : Value).ownBlock ∧ some k_ ≠ (u245005 : Value).ownBlock) u245003 x245003_2) ∧ Aside0 (Kd.R (Kd.int .i64) 3 w' w.heap.size (fun k_ => some k_ ≠ ((.slice Ao46 t226.length co46) : Value).ownBlock ∧ some k_ ≠ ((.slice Ao44 t232.length co44) : Value).ownBlock) (.slice Ao42 t238.length co42) t238) ∧ Aside0 (Kd.R (Kd.int .i64) 47 w' w.heap.size (fun k_ => some k_ ≠ (u245001 : Value).ownBlock ∧ some k_ ≠ (u245003 : Value).ownBlock) u245005 x245005_2) ∧ Aside0 (w'.heap[gb218]? = some (.cells #[(.slice A0_0 l0_0.length c0_0), (.slice A0_1 l0_1.length c0_1)] 26 (0, 0))) ∧ Aside0 (w'.heap[gb219]? = some (.cells #[(.slice A1_0 l1_0.length c1_0), (.slice A1_1 l1_1.length c1_1)] 26 (0, 0))) ∧ Aside0 (w'.heap[gb220]? = some (.cells #[(.slice A2_0 l2_0.length c2_0), (.slice A2_1 l2_1.length c2_1)] 26 (0, 0))) ∧ Aside0 (w'.heap[gb221]? = some (.cells #[(.slice A3_0 l3_0.length c3_0), (.slice A3_1 l3_1.length c3_1)] 26 (0, 0))) ∧ Aside0 (w'.heap[gb222]? = some (.cells #[(.slice none 0 0), (.slice none 0 0), (.slice none 0 0), (.slice none 0 0), (.slice none 0 0), (.slice none 0 0)] 39 (0, 0))) ∧ Aside0 (w'.heap[gb244]? = some (.cells #[(.slice Ao46 t226.length co46), u245001, (.slice Ao44 t232.length co44), u245003, (.slice Ao42 t238.length co42), u245005] 39 (0, 0))) ∧ Aside0 (Below w.heap.size w w'))
    case atStart => exact ⟨(0), (t229), (t235), (t241), (.slice Ao45 t229.length co45), (.slice Ao43 t235.length co43), (.slice Ao41 t241.length co41), (by first | rfl | (simp; done) | (simp [*]; done)), H', ⟨Nat.le_refl _⟩, ⟨by (with_reducible repeat (first|apply rA|apply rN|apply rD)); exact Kd.R_mono (Kd.R_far (p := ⟨gb244, 5, none⟩) (Kd.R_far (p := ⟨gb244, 4, none⟩) (Kd.R_far (p := ⟨gb244, 3, none⟩) (Kd.R_far (p := ⟨gb244, 2, none⟩) (Kd.R_far (p := ⟨gb244, 1, none⟩) (Kd.R_far (p := ⟨gb244, 0, none⟩) (Kd.R_types HO228.out BK244.out (by decide)) (fun _ hk => hk.2) (.slice Ao46 t226.length co46)) (fun _ hk => hk.2) (.slice Ao45 t229.length co45)) (fun _ hk => hk.2) (.slice Ao44 t232.length co44)) (fun _ hk => hk.2) (.slice Ao43 t235.length co43)) (fun _ hk => hk.2) (.slice Ao42 t238.length co42)) (fun _ hk => hk.2) (.slice Ao41 t241.length co41)) (fun _ hk => ⟨hk.1.1, hk.1.2⟩)⟩, ⟨by (with_reducible repeat (first|apply rA|apply rN|apply rD)); exact Kd.R_mono (Kd.R_far (p := ⟨gb244, 5, none⟩) (Kd.R_far (p := ⟨gb244, 4, none⟩) (Kd.R_far (p := ⟨gb244, 3, none⟩) (Kd.R_far (p := ⟨gb244, 2, none⟩) (Kd.R_far (p := ⟨gb244, 1, none⟩) (Kd.R_far (p := ⟨gb244, 0, none⟩) (Kd.R_types HO231.out BK244.out (by decide)) (fun _ hk => hk.2) (.slice Ao46 t226.length co46)) (fun _ hk => hk.2) (.slice Ao45 t229.length co45)) (fun _ hk => hk.2) (.slice Ao44 t232.length co44)) (fun _ hk => hk.2) (.slice Ao43 t235.length co43)) (fun _ hk => hk.2) (.slice Ao42 t238.length co42)) (fun _ hk => hk.2) (.slice Ao41 t241.length co41)) (fun _ hk => ⟨hk.1.1, hk.1.2⟩)⟩, ⟨by (with_reducible repeat (first|apply rA|apply rN|apply rD)); exact Kd.R_mono (Kd.R_far (p := ⟨gb244, 5, none⟩) (Kd.R_far (p := ⟨gb244, 4, none⟩) (Kd.R_far (p := ⟨gb244, 3, none⟩) (Kd.R_far (p := ⟨gb244, 2, none⟩) (Kd.R_far (p := ⟨gb244, 1, none⟩) (Kd.R_far (p := ⟨gb244, 0, none⟩) (Kd.R_types HO234.out BK244.out (by decide)) (fun _ hk => hk.2) (.slice Ao46 t226.length co46)) (fun _ hk => hk.2) (.slice Ao45 t229.length co45)) (fun _ hk => hk.2) (.slice Ao44 t232.length co44)) (fun _ hk => hk.2) (.slice Ao43 t235.length co43)) (fun _ hk => hk.2) (.slice Ao42 t238.length co42)) (fun _ hk => hk.2) (.slice Ao41 t241.length co41)) (fun _ hk => ⟨hk.1.1, hk.1.2⟩)⟩, ⟨by (with_reducible repeat (first|apply rA|apply rN|apply rD)); exact Kd.R_mono (Kd.R_far (p := ⟨gb244, 5, none⟩) (Kd.R_far (p := ⟨gb244, 4, none⟩) (Kd.R_far (p := ⟨gb244, 3, none⟩) (Kd.R_far (p := ⟨gb244, 2, none⟩) (Kd.R_far (p := ⟨gb244, 1, none⟩) (Kd.R_far (p := ⟨gb244, 0, none⟩) (Kd.R_types HO237.out BK244.out (by decide)) (fun _ hk => hk.2) (.slice Ao46 t226.length co46)) (fun _ hk => hk.2) (.slice Ao45 t229.length co45)) (fun _ hk => hk.2) (.slice Ao44 t232.length co44)) (fun _ hk => hk.2) (.slice Ao43 t235.length co43)) (fun _ hk => hk.2) (.slice Ao42 t238.length co42)) (fun _ hk => hk.2) (.slice Ao41 t241.length co41)) (fun _ hk => ⟨hk.1.1, hk.1.2⟩)⟩, ⟨by (with_reducible repeat (first|apply rA|apply rN|apply rD)); exact Kd.R_mono (Kd.R_far (p := ⟨gb244, 5, none⟩) (Kd.R_far (p := ⟨gb244, 4, none⟩) (Kd.R_far (p := ⟨gb244, 3, none⟩) (Kd.R_far (p := ⟨gb244, 2, none⟩) (Kd.R_far (p := ⟨gb244, 1, none⟩) (Kd.R_far (p := ⟨gb244, 0, none⟩) (Kd.R_types HO240.out BK244.out (by decide)) (fun _ hk => hk.2) (.slice Ao46 t226.length co46)) (fun _ hk => hk.2) (.slice Ao45 t229.length co45)) (fun _ hk => hk.2) (.slice Ao44 t232.length co44)) (fun _ hk => hk.2) (.slice Ao43 t235.length co43)) (fun _ hk => hk.2) (.slice Ao42 t238.length co42)) (fun _ hk => hk.2) (.slice Ao41 t241.length co41)) (fun _ hk => ⟨hk.1.1, hk.1.2⟩)⟩, ⟨by (with_reducible repeat (first|apply rA|apply rN|apply rD)); exact Kd.R_mono (Kd.R_far (p := ⟨gb244, 5, none⟩) (Kd.R_far (p := ⟨gb244, 4, none⟩) (Kd.R_far (p := ⟨gb244, 3, none⟩) (Kd.R_far (p := ⟨gb244, 2, none⟩) (Kd.R_far (p := ⟨gb244, 1, none⟩) (Kd.R_far (p := ⟨gb244, 0, none⟩) (Kd.R_types HO243.out BK244.out (by decide)) (fun _ hk => hk.2) (.slice Ao46 t226.length co46)) (fun _ hk => hk.2) (.slice Ao45 t229.length co45)) (fun _ hk => hk.2) (.slice Ao44 t232.length co44)) (fun _ hk => hk.2) (.slice Ao43 t235.length co43)) (fun _ hk => hk.2) (.slice Ao42 t238.length co42)) (fun _ hk => hk.2) (.slice Ao41 t241.length co41)) (fun _ hk => ⟨hk.1.1, hk.1.2⟩)⟩, ⟨by (with_reducible repeat (first|apply kN|apply kD|apply kA)); refine blk_far ?_ NB218_244.out _; (with_reducible repeat (first|apply kN|apply kD|apply kA)); refine blk_far ?_ NB218_244.out _; (with_reducible repeat (first|apply kN|apply kD|apply kA)); refine blk_far ?_ NB218_244.out _; (with_reducible repeat (first|apply kN|apply kD|apply kA)); refine blk_far ?_ NB218_244.out _; (with_reducible repeat (first|apply kN|apply kD|apply kA)); refine blk_far ?_ NB218_244.out _; (with_reducible repeat (first|apply kN|apply kD|apply kA)); refine blk_far ?_ NB218_244.out _; (with_reducible repeat (first|apply kN|apply kD|apply kA)); exact BK218.out⟩, ⟨by (with_reducible repeat (first|apply kN|apply kD|apply kA)); refine blk_far ?_ NB219_244.out _; (with_reducible repeat (first|apply kN|apply kD|apply kA)); refine blk_far ?_ NB219_244.out _; (with_reducible repeat (first|apply kN|apply kD|apply kA)); refine blk_far ?_ NB219_244.out _; (with_reducible repeat (first|apply kN|apply kD|apply kA)); refine blk_far ?_ NB219_244.out _; (with_reducible repeat (first|apply kN|apply kD|apply kA)); refine blk_far ?_ NB219_244.out _; (with_reducible repeat (first|apply kN|apply kD|apply kA)); refine blk_far ?_ NB219_244.out _; (with_reducible repeat (first|apply kN|apply kD|apply kA)); exact BK219.out⟩, ⟨by (with_reducible repeat (first|apply kN|apply kD|apply kA)); refine blk_far ?_ NB220_244.out _; (with_reducible repeat (first|apply kN|apply kD|apply kA)); refine blk_far ?_ NB220_244.out _; (with_reducible repeat (first|apply kN|apply kD|apply kA)); refine blk_far ?_ NB220_244.out _; (with_reducible repeat (first|apply kN|apply kD|apply kA)); refine blk_far ?_ NB220_244.out _; (with_reducible repeat (first|apply kN|apply kD|apply kA)); refine blk_far ?_ NB220_244.out _; (with_reducible repeat (first|apply kN|apply kD|apply kA)); refine blk_far ?_ NB220_244.out _; (with_reducible repeat (first|apply kN|apply kD|apply kA)); exact BK220.out⟩, ⟨by (with_reducible repeat (first|apply kN|apply kD|apply kA)); refine blk_far ?_ NB221_244.out _; (with_reducible repeat (first|apply kN|apply kD|apply kA)); refine blk_far ?_ NB221_244.out _; (with_reducible repeat (first|apply kN|apply kD|apply kA)); refine blk_far ?_ NB221_244.out _; (with_reducible repeat (first|apply kN|apply kD|apply kA)); refine blk_far ?_ NB221_244.out _; (with_reducible repeat (first|apply kN|apply kD|apply kA)); refine blk_far ?_ NB221_244.out _; (with_reducible repeat (first|apply kN|apply kD|apply kA)); refine blk_far ?_ NB221_244.out _; (with_reducible repeat (first|apply kN|apply kD|apply kA)); exact BK221.out⟩, ⟨by (with_reducible repeat (first|apply kN|apply kD|apply kA)); refine blk_far ?_ NB222_244.out _; (with_reducible repeat (first|apply kN|apply kD|apply kA)); refine blk_far ?_ NB222_244.out _; (with_reducible repeat (first|apply kN|apply kD|apply kA)); refine blk_far ?_ NB222_244.out _; (with_reducible repeat (first|apply kN|apply kD|apply kA)); refine blk_far ?_ NB222_244.out _; (with_reducible repeat (first|apply kN|apply kD|apply kA)); refine blk_far ?_ NB222_244.out _; (with_reducible repeat (first|apply kN|apply kD|apply kA)); refine blk_far ?_ NB222_244.out _; (with_reducible repeat (first|apply kN|apply kD|apply kA)); exact BK222.out⟩, ⟨by (with_reducible repeat (first|apply kN|apply kD|apply kA)); refine blk_put (cs := #[.slice Ao46 t226.length co46, .slice Ao45 t229.length co45, .slice Ao44 t232.length co44, .slice Ao43 t235.length co43, .slice Ao42 t238.length co42, .slice none 0 0]) ?_ 5 _ rfl; (with_reducible repeat (first|apply kN|apply kD|apply kA)); refine blk_put (cs := #[.slice Ao46 t226.length co46, .slice Ao45 t229.length co45, .slice Ao44 t232.length co44, .slice Ao43 t235.length co43, .slice none 0 0, .slice none 0 0]) ?_ 4 _ rfl; (with_reducible repeat (first|apply kN|apply kD|apply kA)); refine blk_put (cs := #[.slice Ao46 t226.length co46, .slice Ao45 t229.length co45, .slice Ao44 t232.length co44, .slice none 0 0, .slice none 0 0, .slice none 0 0]) ?_ 3 _ rfl; (with_reducible repeat (first|apply kN|apply kD|apply kA)); refine blk_put (cs := #[.slice Ao46 t226.length co46, .slice Ao45 t229.length co45, .slice none 0 0, .slice none 0 0, .slice none 0 0, .slice none 0 0]) ?_ 2 _ rfl; (with_reducible repeat (first|apply kN|apply kD|apply kA)); refine blk_put (cs := #[.slice Ao46 t226.length co46, .slice none 0 0, .slice none 0 0, .slice none 0 0, .slice none 0 0, .slice none 0 0]) ?_ 1 _ rfl; (with_reducible repeat (first|apply kN|apply kD|apply kA)); refine blk_put (cs := #[.slice none 0 0, .slice none 0 0, .slice none 0 0, .slice none 0 0, .slice none 0 0, .slice none 0 0]) ?_ 0 _ rfl; (with_reducible repeat (first|apply kN|apply kD|apply kA)); exact BK244.out⟩, ⟨by repeat (first | (with_reducible first|exact HB.out|apply bA|apply bN|apply bD|refine bS ?_ GE218.out|refine bS ?_ GE219.out|refine bS ?_ GE220.out|refine bS ?_ GE221.out|refine bS ?_ GE222.out|refine bS ?_ GE244.out)|exact HB.out)⟩⟩
    case round =>
     clear H'
     (try clear hcz58_0); (try clear hcz58_1); (try clear hfz58_0); (try clear hfz58_1)
     obtain ⟨x41_2, x245001_2, x245003_2, x245005_2, u245001, u245003, u245005, rfl, HA, HK2, HO_245000, HO_245001, HO_245002, HO_245003, HO_245004, HO_245005, BK218, BK219, BK220, BK221, BK222, BK244, HB⟩ := hrel
     cases gk with
     | zero => exact absurd HA.out (by simp [dense_Back.l0])
     | succ k2 =>
      have H := HA.out
      clear HA
      simp only [dense_Back.l0] at H
      by_cases c59 : x41_2 < (l3_1.length : Int)
      ·rw [if_pos c59] at H
       have c59b0 : decide (x41_2 < (l3_1.length : Int)) = true := decide_eq_true c59
       clear c59
       by_cases c60 : 0 ≤ x41_2
       ·rw [if_pos c60] at H
        have c60b0 : decide (0 ≤ x41_2) = true := decide_eq_true c60
        clear c60
        by_cases c61 : x41_2 < (l3_1.length : Int)
        ·rw [if_pos c61] at H
         have c61b0 : decide (x41_2 < (l3_1.length : Int)) = true := decide_eq_true c61
         clear c61
         have H' := Aside0.mk H
         clear H
         have p245 : 0 ≤ (x41_2 : Int) := of_decide_eq_true (by first | (with_reducible assumption) | assumption)
         have q245 : x41_2 < (l3_1.length : Int) := of_decide_eq_true (by first | (with_reducible assumption) | assumption)
         obtain ⟨ad245, e245, hx245_0⟩ := Kd.at_int HR3_1.out x41_2 p245 q245
         cases e245
         replace hx245_0 := (HB.out.cell (World.block_lt_of_cell? w _ hx245_0)).trans hx245_0
         replace p245 := eq_true p245
         replace q245 := eq_true q245
         have hnb62 := NB220_218.out
         have hnc62 := NB218_220.out
         have hnb63 := NB220_219.out
         have hnc63 := NB219_220.out
         have hnb64 := NB220_221.out
         have hnc64 := NB221_220.out
         have hnb65 := NB220_222.out
         have hnc65 := NB222_220.out
         have hnb66 := NB220_244.out
         have hnc66 := NB244_220.out
         have hcz67_0 : wr.cell? ⟨gb220, 0, none⟩ = some (.slice A2_0 l2_0.length c2_0) := (blk_cell BK220.out 0).trans rfl
         have hcz67_1 : wr.cell? ⟨gb220, 1, none⟩ = some (.slice A2_1 l2_1.length c2_1) := (blk_cell BK220.out 1).trans rfl
         have hfz67_0 := blk_frozen BK220.out 0
         have hfz67_1 := blk_frozen BK220.out 1
         go_wp2
         go_loopg [49] k2 (fun kq v49 w' => ∃ (x49_3 : Int) (x245001_3 : List Int) (x245003_3 : List Int) (x245005_3 : List Int) (u245001 : Value) (u245003 : Value) (u245005 : Value), v49 = .int .i64 x49_3 ∧ Aside0 (dense_Back.l1 kq x41_2 (rd l3_1 x41_2) l3_1 (l3_1.length : Int) x41_2 l2_1 (l2_1.length : Int) x49_3 l0_0 l0_1 l2_0 l2_1 l3_0 l3_1 t226 x245001_3 t232 x245003_3 t238 x245005_3 = some (r1, r2, r3, r4, r5, r6, r7)) ∧ Aside0 (kq ≤ k2) ∧ Aside0 (Kd.R (Kd.int .i64) 3 w' w.heap.size (fun k_ => some k_ ≠ ((.slice Ao44 t232.length co44) : Value).ownBlock ∧ some k_ ≠ ((.slice Ao42 t238.length co42) : Value).ownBlock) (.slice Ao46 t226.length co46) t226) ∧ Aside0 (Kd.R (Kd.int .i64) 47 w' w.heap.size (fun k_ => some k_ ≠ (u245003 : Value).ownBlock ∧ some k_ ≠ (u245005 : Value).ownBlock) u245001 x245001_3) ∧ Aside0 (Kd.R (Kd.int .i64) 3 w' w.heap.size (fun k_ => some k_ ≠ ((.slice Ao46 t226.length co46) : Value).ownBlock ∧ some k_ ≠ ((.slice Ao42 t238.length co42) : Value).ownBlock) (.slice Ao44 t232.length co44) t232) ∧ Aside0 (Kd.R (Kd.int .i64) 47 w' w.heap.size (fun k_ => some k_ ≠ (u245001 : Value).ownBlock ∧ some k_ ≠ (u245005 : Value).ownBlock) u245003 x245003_3) ∧ Aside0 (Kd.R (Kd.int .i64) 3 w' w.heap.size (fun k_ => some k_ ≠ ((.slice Ao46 t226.length co46) : Value).ownBlock ∧ some k_ ≠ ((.slice Ao44 t232.length co44) : Value).ownBlock) (.slice Ao42 t238.length co42) t238) ∧ Aside0 (Kd.R (Kd.int .i64) 47 w' w.heap.size (fun k_ => some k_ ≠ (u245001 : Value).ownBlock ∧ some k_ ≠ (u245003 : Value).ownBlock) u245005 x245005_3) ∧ Aside0 (w'.heap[gb218]? = some (.cells #[(.slice A0_0 l0_0.length c0_0), (.slice A0_1 l0_1.length c0_1)] 26 (0, 0))) ∧ Aside0 (w'.heap[gb219]? = some (.cells #[(.slice A1_0 l1_0.length c1_0), (.slice A1_1 l1_1.length c1_1)] 26 (0, 0))) ∧ Aside0 (w'.heap[gb220]? = some (.cells #[(.slice A2_0 l2_0.length c2_0), (.slice A2_1 l2_1.length c2_1)] 26 (0, 0))) ∧ Aside0 (w'.heap[gb221]? = some (.cells #[(.slice A3_0 l3_0.length c3_0), (.slice (some ad245) l3_1.length c3_1)] 26 (0, 0))) ∧ Aside0 (w'.heap[gb222]? = some (.cells #[(.slice none 0 0), (.slice none 0 0), (.slice none 0 0), (.slice none 0 0), (.slice none 0 0), (.slice none 0 0)] 39 (0, 0))) ∧ Aside0 (w'.heap[gb244]? = some (.cells #[(.slice Ao46 t226.length co46), u245001, (.slice Ao44 t232.length co44), u245003, (.slice Ao42 t238.length co42), u245005] 39 (0, 0))) ∧ Aside0 (Below w.heap.size w w'))
         case atStart => exact ⟨(0), (x245001_2), (x245003_2), (x245005_2), (u245001), (u245003), (u245005), (by first | rfl | (simp; done) | (simp [*]; done)), H', ⟨Nat.le_refl _⟩, ⟨by (with_reducible repeat (first|apply rA|apply rN|apply rD)); exact HO_245000.out⟩, ⟨by (with_reducible repeat (first|apply rA|apply rN|apply rD)); exact HO_245001.out⟩, ⟨by (with_reducible repeat (first|apply rA|apply rN|apply rD)); exact HO_245002.out⟩, ⟨by (with_reducible repeat (first|apply rA|apply rN|apply rD)); exact HO_245003.out⟩, ⟨by (with_reducible repeat (first|apply rA|apply rN|apply rD)); exact HO_245004.out⟩, ⟨by (with_reducible repeat (first|apply rA|apply rN|apply rD)); exact HO_245005.out⟩, ⟨by (with_reducible repeat (first|apply kN|apply kD|apply kA)); exact BK218.out⟩, ⟨by (with_reducible repeat (first|apply kN|apply kD|apply kA)); exact BK219.out⟩, ⟨by (with_reducible repeat (first|apply kN|apply kD|apply kA)); exact BK220.out⟩, ⟨by (with_reducible repeat (first|apply kN|apply kD|apply kA)); exact BK221.out⟩, ⟨by (with_reducible repeat (first|apply kN|apply kD|apply kA)); exact BK222.out⟩, ⟨by (with_reducible repeat (first|apply kN|apply kD|apply kA)); exact BK244.out⟩, ⟨by repeat (first | (with_reducible first|exact HB.out|apply bA|apply bN|apply bD|refine bS ?_ GE218.out|refine bS ?_ GE219.out|refine bS ?_ GE220.out|refine bS ?_ GE221.out|refine bS ?_ GE222.out|refine bS ?_ GE244.out)|exact HB.out)⟩⟩
         case round =>
          clear H'
          (try clear c59); (try clear c59b0); (try clear c60); (try clear c60b0); (try clear c61); (try clear c61b0); (try clear hcz58_0); (try clear hcz58_1); (try clear hcz67_0); (try clear hcz67_1); (try clear hfz58_0); (try clear hfz58_1); (try clear hfz67_0); (try clear hfz67_1); (try clear hx245_0); (try clear p245); (try clear q245)
          obtain ⟨x49_3, x245001_3, x245003_3, x245005_3, u245001, u245003, u245005, rfl, HA, HK3, HO_245000, HO_245001, HO_245002, HO_245003, HO_245004, HO_245005, BK218, BK219, BK220, BK221, BK222, BK244, HB⟩ := hrel
          cases gk with
          | zero => exact absurd HA.out (by simp [dense_Back.l1])
          | succ k3 =>
           have H := HA.out
           clear HA
           simp only [dense_Back.l1] at H
           by_cases c68 : x49_3 < (l2_1.length : Int)
           ·rw [if_pos c68] at H
            have c68b0 : decide (x49_3 < (l2_1.length : Int)) = true := decide_eq_true c68
            clear c68
            by_cases c69 : 0 ≤ x49_3
            ·rw [if_pos c69] at H
             have c69b0 : decide (0 ≤ x49_3) = true := decide_eq_true c69
             clear c69
             by_cases c70 : x49_3 < (l2_1.length : Int)
             ·rw [if_pos c70] at H
              have c70b0 : decide (x49_3 < (l2_1.length : Int)) = true := decide_eq_true c70
              clear c70
              by_cases c71 : 1 < (l0_0.length : Int)
              ·rw [if_pos c71] at H
               have c71b0 : decide (1 < (l0_0.length : Int)) = true := decide_eq_true c71
               have c71b1 : decide (1 < l0_0.length) = true := decide_eq_true (by omega)
               clear c71
               replace H := Option.bind_eq_some_iff.mp H
               obtain ⟨t248, A720, H⟩ := H
               replace H : (if 0 ≤ (wrap64 ((wrap64 (x41_2 * (rd l0_0 1))) + x49_3)) then (if (wrap64 ((wrap64 (x41_2 * (rd l0_0 1))) + x49_3)) < (x245001_3.length : Int) then (dense_Back.l1 k3 x41_2 (rd l3_1 x41_2) l3_1 (l3_1.length : Int) x41_2 l2_1 (l2_1.length : Int) (wrap64 (x49_3 + 1)) l0_0 l0_1 l2_0 l2_1 l3_0 l3_1 t226 (x245001_3.set ((wrap64 ((wrap64 (x41_2 * (rd l0_0 1))) + x49_3)) : Int).toNat t248) t232 x245003_3 t238 x245005_3) else (none)) else (none)) = some (r1, r2, r3, r4, r5, r6, r7) := H
               have A72 := Aside0.mk A720
               clear A720
               obtain ⟨ji73, hji73⟩ : ∃ j_ : Int, (wrap64 ((wrap64 (x41_2 * (rd l0_0 1))) + x49_3)) = j_ := ⟨_, rfl⟩
               replace H : (if 0 ≤ (ji73) then (if (ji73) < (x245001_3.length : Int) then (dense_Back.l1 k3 x41_2 (rd l3_1 x41_2) l3_1 (l3_1.length : Int) x41_2 l2_1 (l2_1.length : Int) (wrap64 (x49_3 + 1)) l0_0 l0_1 l2_0 l2_1 l3_0 l3_1 t226 (x245001_3.set ((ji73) : Int).toNat t248) t232 x245003_3 t238 x245005_3) else (none)) else (none)) = some (r1, r2, r3, r4, r5, r6, r7) := by first | (rw [hji73] at H; exact H) | (simp only [hji73] at H ⊢; exact H)
               (try rw [hji73] at A72)
               have hji73w : (IntKind.i64.wrap ((wrap64 (x41_2 * (rd l0_0 1))) + x49_3)) = ji73 := (i64_w _).trans hji73
               by_cases c74 : 0 ≤ (ji73)
               ·rw [if_pos c74] at H
                have c74b0 : decide (0 ≤ (ji73)) = true := decide_eq_true c74
                clear c74
                by_cases c75 : (ji73) < (x245001_3.length : Int)
                ·rw [if_pos c75] at H
                 have c75b0 : decide ((ji73) < (x245001_3.length : Int)) = true := decide_eq_true c75
                 clear c75
                 obtain ⟨y249, hy249⟩ : ∃ y_ : List Int, y_ = (x245001_3.set ((ji73) : Int).toNat t248) := ⟨_, rfl⟩
                 replace H : (dense_Back.l1 k3 x41_2 (rd l3_1 x41_2) l3_1 (l3_1.length : Int) x41_2 l2_1 (l2_1.length : Int) (wrap64 (x49_3 + 1)) l0_0 l0_1 l2_0 l2_1 l3_0 l3_1 t226 y249 t232 x245003_3 t238 x245005_3) = some (r1, r2, r3, r4, r5, r6, r7) := by first | (rw [hy249]; with_reducible exact H) | (have H2_ := (Option.bind_some _ _).symm.trans H; rw [hy249]; with_reducible exact H2_) | (have H2_ := (Option.bind_some _ _).symm.trans H; with_reducible exact H2_) | with_reducible exact H | (rw [hy249]; exact H)|exact H
                 have Ny249 := Aside0.mk hy249
                 clear hy249
                 as_aux_lemma =>
                  have H' := Aside0.mk H
                  clear H
                  have p246 : 0 ≤ (x49_3 : Int) := of_decide_eq_true (by first | (with_reducible assumption) | assumption)
                  have q246 : x49_3 < (l2_1.length : Int) := of_decide_eq_true (by first | (with_reducible assumption) | assumption)
                  obtain ⟨ad246, e246, hx246_0⟩ := Kd.at_int HR2_1.out x49_3 p246 q246
                  cases e246
                  replace hx246_0 := (HB.out.cell (World.block_lt_of_cell? w _ hx246_0)).trans hx246_0
                  replace p246 := eq_true p246
                  replace q246 := eq_true q246
                  try go_wp2
                  have n0_ := aM (Kd.R_drew HO_245000.out)
                  have n1_ := aM (Kd.R_drew HO_245001.out)
                  have n2_ := aM (Kd.R_drew HO_245002.out)
                  have n3_ := aM (Kd.R_drew HO_245003.out)
                  have n4_ := aM (Kd.R_drew HO_245004.out)
                  have n5_ := aM (Kd.R_drew HO_245005.out)
                  have n6_ := aM (blk_drew BK218.out)
                  have n7_ := aM (blk_drew BK219.out)
                  have n8_ := aM (blk_drew BK220.out)
                  have n9_ := aM (blk_drew BK221.out)
                  have n10_ := aM (blk_drew BK222.out)
                  have n11_ := aM (blk_drew BK244.out)
                  have n12_ := aM (below_drew1 HB.out)
                  clear HO_245000
                  clear HO_245001
                  clear HO_245002
                  clear HO_245003
                  clear HO_245004
                  clear HO_245005
                  clear BK218
                  clear BK219
                  clear BK220
                  clear BK221
                  clear BK222
                  clear BK244
                  clear HB
                  have HO_245000 := n0_
                  have HO_245001 := n1_
                  have HO_245002 := n2_
                  have HO_245003 := n3_
                  have HO_245004 := n4_
                  have HO_245005 := n5_
                  have BK218 := n6_
                  have BK219 := n7_
                  have BK220 := n8_
                  have BK221 := n9_
                  have BK222 := n10_
                  have BK244 := n11_
                  have HB := n12_
                  clear n0_ n1_ n2_ n3_ n4_ n5_ n6_ n7_ n8_ n9_ n10_ n11_ n12_
                  have p247 : 0 ≤ (1 : Int) := (by omega)
                  have q247 : 1 < (l0_0.length : Int) := of_decide_eq_true (by first | (with_reducible assumption) | assumption)
                  obtain ⟨ad247, e247, hx247_0⟩ := Kd.at_int HR0_0.out 1 p247 q247
                  have hw247_0 := hx247_0
                  (try rw [show ((1 : Int)).toNat = 1 from rfl] at hw247_0)
                  (try rw [show 1 * 1 = 1 from rfl] at hw247_0)
                  (try simp only [Nat.reduceMul, Nat.reduceEqDiff, Go.Addr.add, ↓reduceIte] at hw247_0)
                  cases e247
                  (try simp only [show (1 : Int).toNat = 1 from rfl, Nat.reduceMul, Nat.reduceEqDiff, Go.Addr.add, ↓reduceIte] at hx247_0)
                  have qi247 : (1 < l0_0.length) = True := eq_true (by omega)
                  (try rw [show ((1 : Int)).toNat = 1 from rfl] at hx247_0)
                  replace hx247_0 := (HB.out.cell (World.block_lt_of_cell? w _ hx247_0)).trans hx247_0
                  replace p247 := eq_true p247
                  replace q247 := eq_true q247
                  refine start_ (n := 16) (S := fun w' => w'.cell? ⟨gb244, 0, none⟩ = some (.slice Ao46 t226.length co46) ∧ w'.cell? ⟨gb244, 1, none⟩ = some (u245001) ∧ w'.cell? ⟨gb244, 2, none⟩ = some (.slice Ao44 t232.length co44) ∧ w'.cell? ⟨gb244, 3, none⟩ = some (u245003) ∧ w'.cell? ⟨gb244, 4, none⟩ = some (.slice Ao42 t238.length co42) ∧ w'.cell? ⟨gb244, 5, none⟩ = some (u245005) ∧ w'.cell? ⟨gb218, 0, none⟩ = some (.slice (some ad247) l0_0.length c0_0) ∧ w'.cell? ⟨gb218, 1, none⟩ = some (.slice A0_1 l0_1.length c0_1) ∧ w'.cell? ⟨ad247.block, ad247.off + 1, none⟩ = some (.int .i64 (rd l0_0 1))) (ds := [15]) #[false, false, false, false, false, false, false, false, false, false, false, false, false, false, false, false] (by kernel_rfl) rfl rfl ⟨(blk_cell BK244.out 0).trans rfl, (blk_cell BK244.out 1).trans rfl, (blk_cell BK244.out 2).trans rfl, (blk_cell BK244.out 3).trans rfl, (blk_cell BK244.out 4).trans rfl, (blk_cell BK244.out 5).trans rfl, (blk_cell BK218.out 0).trans rfl, (blk_cell BK218.out 1).trans rfl, ((HB.out.cell (World.block_lt_of_cell? w _ hw247_0)).trans hw247_0)⟩ (fun hHeld => ?_); refine with_tabW dense_Back.tab10 dense_Back.bits10 (fun HT_ HW_ => ?_)
                  generalize wr.drew = w77 at HO_245000 HO_245001 HO_245002 HO_245003 HO_245004 HO_245005 BK218 BK219 BK220 BK221 BK222 BK244 HB hx247_0 hHeld ⊢
                  refine pure_ (i := 0) (N := some 54) (v := ?_) (a' := ?_) #[true, false, false, false, false, false, false, false, false, false, false, false, false, false, false, false] rfl rfl (any_of HT_.out (by kernel_rfl)) (fun _ _ _ h => h) (Or.inl ⟨by rfl, ?_⟩) ?_ ?_
                  rotate_left
                  ·intro w'
                   go_simp
                   with_reducible rfl
                  rotate_left
                  ·simp only [Act.put, List.setIfInBounds_toArray, List.set_cons_zero, List.set_cons_succ, i64_w, i32_w]
                   rfl
                  refine pure_ (i := 1) (N := some 55) (v := ?_) (a' := ?_) #[true, true, false, false, false, false, false, false, false, false, false, false, false, false, false, false] rfl rfl (any_of HT_.out (by kernel_rfl)) (fun _ _ _ h => h) (Or.inl ⟨by rfl, ?_⟩) ?_ ?_
                  rotate_left
                  ·intro w'
                   go_simp
                   with_reducible rfl
                  rotate_left
                  ·simp only [Act.put, List.setIfInBounds_toArray, List.set_cons_zero, List.set_cons_succ, i64_w, i32_w]
                   rfl
                  refine pure_ (i := 3) (N := some 57) (v := ?_) (a' := ?_) #[true, true, false, true, false, false, false, false, false, false, false, false, false, false, false, false] rfl rfl (any_of HT_.out (by kernel_rfl)) (fun _ _ _ h => h) (Or.inl ⟨by rfl, ?_⟩) ?_ ?_
                  rotate_left
                  ·intro w'
                   go_simp
                   with_reducible rfl
                  rotate_left
                  ·simp only [Act.put, List.setIfInBounds_toArray, List.set_cons_zero, List.set_cons_succ, i64_w, i32_w]
                   rfl
                  refine pure_ (i := 4) (N := some 58) (v := ?_) (a' := ?_) #[true, true, false, true, true, false, false, false, false, false, false, false, false, false, false, false] rfl rfl (any_of HT_.out (by kernel_rfl)) (fun _ _ _ h => h) (Or.inl ⟨by rfl, ?_⟩) ?_ ?_
                  rotate_left
                  ·intro w'
                   go_simp
                   with_reducible rfl
                  rotate_left
                  ·simp only [Act.put, List.setIfInBounds_toArray, List.set_cons_zero, List.set_cons_succ, i64_w, i32_w]
                   rfl
                  refine pure_ (i := 9) (N := some 63) (v := ?_) (a' := ?_) #[true, true, false, true, true, false, false, false, false, true, false, false, false, false, false, false] rfl rfl (any_of HT_.out (by kernel_rfl)) (fun _ _ _ h => h) (Or.inl ⟨by rfl, ?_⟩) ?_ ?_
                  rotate_left
                  ·intro w'
                   go_simp
                   with_reducible rfl
                  rotate_left
                  ·simp only [Act.put, List.setIfInBounds_toArray, List.set_cons_zero, List.set_cons_succ, i64_w, i32_w]
                   rfl
                  refine pure_ (i := 11) (N := some 65) (v := ?_) (a' := ?_) #[true, true, false, true, true, false, false, false, false, true, false, true, false, false, false, false] rfl rfl (any_of HT_.out (by kernel_rfl)) (fun _ _ _ h => h) (Or.inl ⟨by rfl, ?_⟩) ?_ ?_
                  rotate_left
                  ·intro w'
                   go_simp
                   with_reducible rfl
                  rotate_left
                  ·simp only [Act.put, List.setIfInBounds_toArray, List.set_cons_zero, List.set_cons_succ, i64_w, i32_w]
                   rfl
                  refine pure_ (i := 12) (N := some 66) (v := ?_) (a' := ?_) #[true, true, false, true, true, false, false, false, false, true, false, true, true, false, false, false] rfl rfl (any_of HT_.out (by kernel_rfl)) (fun _ _ _ h => h) (Or.inl ⟨by rfl, ?_⟩) ?_ ?_
                  rotate_left
                  ·intro w'
                   go_simp
                   with_reducible rfl
                  rotate_left
                  ·simp only [Act.put, List.setIfInBounds_toArray, List.set_cons_zero, List.set_cons_succ, i64_w, i32_w]
                   rfl
                  refine take_ (i := 2) (N := some 56) (v := ?_) (a' := ?_) #[true, true, true, true, true, false, false, false, false, true, false, true, true, false, false, false] rfl rfl (take_ofW HT_.out HW_.out (by kernel_rfl)) (fun _ _ _ h => h) (Or.inl ⟨by rfl, ?_⟩) hHeld ?_ ?_
                  rotate_left
                  ·rintro w' ⟨s0, s1, s2, s3, s4, s5, s6, s7, s8⟩
                   go_simp
                   with_reducible rfl
                  rotate_left
                  ·simp only [Act.put, List.setIfInBounds_toArray, List.set_cons_zero, List.set_cons_succ, i64_w, i32_w]
                   rfl
                  refine take_ (i := 5) (N := some 59) (v := ?_) (a' := ?_) #[true, true, true, true, true, true, false, false, false, true, false, true, true, false, false, false] rfl rfl (take_ofW HT_.out HW_.out (by kernel_rfl)) (fun _ _ _ h => h) (Or.inl ⟨by rfl, ?_⟩) hHeld ?_ ?_
                  rotate_left
                  ·rintro w' ⟨s0, s1, s2, s3, s4, s5, s6, s7, s8⟩
                   go_simp
                   with_reducible rfl
                  rotate_left
                  ·simp only [Act.put, List.setIfInBounds_toArray, List.set_cons_zero, List.set_cons_succ, i64_w, i32_w]
                   rfl
                  refine pure_ (i := 6) (N := some 60) (v := ?_) (a' := ?_) #[true, true, true, true, true, true, true, false, false, true, false, true, true, false, false, false] rfl rfl (any_of HT_.out (by kernel_rfl)) (fun _ _ _ h => h) (Or.inl ⟨by rfl, ?_⟩) ?_ ?_
                  rotate_left
                  ·intro w'
                   go_simp
                   with_reducible rfl
                  rotate_left
                  ·simp only [Act.put, List.setIfInBounds_toArray, List.set_cons_zero, List.set_cons_succ, i64_w, i32_w]
                   rfl
                  refine take_ (i := 7) (N := some 61) (v := ?_) (a' := ?_) #[true, true, true, true, true, true, true, true, false, true, false, true, true, false, false, false] rfl rfl (take_ofW HT_.out HW_.out (by kernel_rfl)) (fun _ _ _ h => h) (Or.inl ⟨by rfl, ?_⟩) hHeld ?_ ?_
                  rotate_left
                  ·rintro w' ⟨s0, s1, s2, s3, s4, s5, s6, s7, s8⟩
                   go_simp
                   with_reducible rfl
                  rotate_left
                  ·simp only [Act.put, List.setIfInBounds_toArray, List.set_cons_zero, List.set_cons_succ, i64_w, i32_w]
                   rfl
                  refine pure_ (i := 8) (N := some 62) (v := ?_) (a' := ?_) #[true, true, true, true, true, true, true, true, true, true, false, true, true, false, false, false] rfl rfl (any_of HT_.out (by kernel_rfl)) (fun _ _ _ h => h) (Or.inl ⟨by rfl, ?_⟩) ?_ ?_
                  rotate_left
                  ·intro w'
                   go_simp
                   with_reducible rfl
                  rotate_left
                  ·simp only [Act.put, List.setIfInBounds_toArray, List.set_cons_zero, List.set_cons_succ, i64_w, i32_w]
                   rfl
                  refine pure_ (i := 10) (N := some 64) (v := ?_) (a' := ?_) #[true, true, true, true, true, true, true, true, true, true, true, true, true, false, false, false] rfl rfl (any_of HT_.out (by kernel_rfl)) (fun _ _ _ h => h) (Or.inl ⟨by rfl, ?_⟩) ?_ ?_
                  rotate_left
                  ·intro w'
                   go_simp
                   with_reducible rfl
                  rotate_left
                  ·simp only [Act.put, List.setIfInBounds_toArray, List.set_cons_zero, List.set_cons_succ, i64_w, i32_w]
                   rfl
                  refine one_ (i := 13) (N := some 67) #[true, true, true, true, true, true, true, true, true, true, true, true, true, true, false, false] rfl rfl (one_of HT_.out (by kernel_rfl)) (by decide) (fun K hK => ?_)
                  refine goes_ Try.func33 (by kernel_rfl) rfl #[.int .i64 (rd l3_1 x41_2), .int .i64 (rd l2_1 x49_3)] (by rfl) rfl rfl (by (try simp only [List.map_toArray, List.map_cons, List.map_nil]); first | done | rfl | (simp only [List.length_drop, List.length_take]; rfl)) ?_
                  with_reducible refine (fix_F_Mul.calls k3 (rd l3_1 x41_2) (rd l2_1 x49_3) t248 _ A72.out).mono ?_
                  rintro e w' ⟨rfl, ⟨nd, rfl⟩⟩
                  refine ⟨_, rfl, ?_⟩
                  have p76 : 0 ≤ ((ji73) : Int) := of_decide_eq_true (by first | (with_reducible assumption) | assumption)
                  have q76 : ((ji73) : Int) < ((x245001_3.length : Int) : Int) := of_decide_eq_true (by first | (with_reducible assumption) | assumption)
                  obtain ⟨go76, co76, eo76, gb76, gl76, cl76, HG76⟩ := Kd.R_form HO_245001.out (by omega)
                  (first | cases eo76 | (injection eo76 with ea_ en_ ec_; (first | subst ea_ | (injection ea_ with ea_; subst ea_)); subst ec_; clear en_))
                  have GB76 := Aside0.mk gb76
                  have GG76 := Aside0.mk HG76
                  clear gb76 gl76 HG76
                  obtain ⟨hx76_0, hf76_0⟩ := Kd.R_celln 0 HO_245001.out ((ji73) : Int) p76 q76
                  replace p76 := eq_true p76
                  replace q76 := eq_true q76
                  have HP78 := Kd.R_putn HO_245001.out ((ji73) : Int) t248
                  rw [← Ny249.out] at HP78
                  have HQ78 := Aside0.mk HP78
                  clear HP78
                  refine hK.out _ _ ⟨(blk_cell BK244.out 0).trans rfl, (blk_cell BK244.out 1).trans rfl, (blk_cell BK244.out 2).trans rfl, (blk_cell BK244.out 3).trans rfl, (blk_cell BK244.out 4).trans rfl, (blk_cell BK244.out 5).trans rfl, (blk_cell BK218.out 0).trans rfl, (blk_cell BK218.out 1).trans rfl, ((HB.out.cell (World.block_lt_of_cell? w _ hw247_0)).trans hw247_0)⟩ (fun hHeld => ?_)
                  clear hK K
                  refine norm_ (a' := ?_) ?_ ?_
                  rotate_left
                  ·show Act.put _ (some 67) _ = _
                   simp only [Act.put, List.setIfInBounds_toArray, List.set_cons_zero, List.set_cons_succ, i64_w, i32_w]
                   rfl
                  refine pure_ (i := 14) (N := some 68) (v := ?_) (a' := ?_) #[true, true, true, true, true, true, true, true, true, true, true, true, true, true, true, false] rfl rfl (any_of HT_.out (by kernel_rfl)) (fun _ _ _ h => h) (Or.inl ⟨by rfl, ?_⟩) ?_ ?_
                  rotate_left
                  ·intro w'
                   go_simp
                   with_reducible rfl
                  rotate_left
                  ·simp only [Act.put, List.setIfInBounds_toArray, List.set_cons_zero, List.set_cons_succ, i64_w, i32_w]
                   rfl
                  refine last_ (i := 15) (N := none) #[true, true, true, true, true, true, true, true, true, true, true, true, true, true, true, true] rfl rfl (one_of HT_.out (by kernel_rfl)) (by decide) (fun K hK => ?_)
                  refine skip_ (w1 := ?_) (by rfl) rfl ?_ ?_
                  rotate_left
                  ·go_simp
                   rfl
                  refine hK.out _ _ ?_
                  clear hK K
                  refine done_ (done_of HT_.out (by kernel_rfl)) ?_
                  try go_wp2
                  go_roundg k3
                  case measure => have := HJ4.out; have := HK2.out; have := HK3.out; omega
                  case rel => exact ⟨(wrap64 (x49_3 + 1)), (y249), (x245003_3), (x245005_3), (.slice (some ⟨go76, 0, none⟩) x245001_3.length co76), (u245003), (u245005), (by first | rfl | (simp; done) | (simp [*]; done)), H', ⟨by have := HJ4.out; have := HK2.out; have := HK3.out; omega⟩, ⟨by (with_reducible repeat (first|apply rA|apply rN|apply rD)); exact Kd.R_mono (Kd.R_far (p := ⟨go76, ((ji73) : Int).toNat, none⟩) (Kd.R_types HO_245000.out GG76.out (by decide)) (fun _ hk => hk.2) (.int .i64 t248)) (fun _ hk => ⟨hk.1.1, hk.1.2⟩)⟩, ⟨by (with_reducible repeat (first|apply rA|apply rN|apply rD)); exact HQ78.out⟩, ⟨by (with_reducible repeat (first|apply rA|apply rN|apply rD)); exact Kd.R_mono (Kd.R_far (p := ⟨go76, ((ji73) : Int).toNat, none⟩) (Kd.R_types HO_245002.out GG76.out (by decide)) (fun _ hk => hk.2) (.int .i64 t248)) (fun _ hk => ⟨hk.1.1, hk.1.2⟩)⟩, ⟨by (with_reducible repeat (first|apply rA|apply rN|apply rD)); exact Kd.R_mono (Kd.R_far (p := ⟨go76, ((ji73) : Int).toNat, none⟩) (Kd.R_mono HO_245003.out (fun k_ hk => (⟨hk, fun e_ => hk.1 (by rw [e_]; rfl)⟩ : _ ∧ k_ ≠ go76))) (fun _ hk => hk.2) (.int .i64 t248)) (fun _ hk => ⟨hk.1.1, hk.1.2⟩)⟩, ⟨by (with_reducible repeat (first|apply rA|apply rN|apply rD)); exact Kd.R_mono (Kd.R_far (p := ⟨go76, ((ji73) : Int).toNat, none⟩) (Kd.R_types HO_245004.out GG76.out (by decide)) (fun _ hk => hk.2) (.int .i64 t248)) (fun _ hk => ⟨hk.1.1, hk.1.2⟩)⟩, ⟨by (with_reducible repeat (first|apply rA|apply rN|apply rD)); exact Kd.R_mono (Kd.R_far (p := ⟨go76, ((ji73) : Int).toNat, none⟩) (Kd.R_mono HO_245005.out (fun k_ hk => (⟨hk, fun e_ => hk.1 (by rw [e_]; rfl)⟩ : _ ∧ k_ ≠ go76))) (fun _ hk => hk.2) (.int .i64 t248)) (fun _ hk => ⟨hk.1.1, hk.1.2⟩)⟩, ⟨by (with_reducible repeat (first|apply kN|apply kD|apply kA)); refine blk_far ?_ (by have h_ := Kd.R_ne HO_245001.out BK218.out (by decide); intro e_; exact h_ (by rw [e_]; rfl)) _; (with_reducible repeat (first|apply kN|apply kD|apply kA)); exact BK218.out⟩, ⟨by (with_reducible repeat (first|apply kN|apply kD|apply kA)); refine blk_far ?_ (by have h_ := Kd.R_ne HO_245001.out BK219.out (by decide); intro e_; exact h_ (by rw [e_]; rfl)) _; (with_reducible repeat (first|apply kN|apply kD|apply kA)); exact BK219.out⟩, ⟨by (with_reducible repeat (first|apply kN|apply kD|apply kA)); refine blk_far ?_ (by have h_ := Kd.R_ne HO_245001.out BK220.out (by decide); intro e_; exact h_ (by rw [e_]; rfl)) _; (with_reducible repeat (first|apply kN|apply kD|apply kA)); exact BK220.out⟩, ⟨by (with_reducible repeat (first|apply kN|apply kD|apply kA)); refine blk_far ?_ (by have h_ := Kd.R_ne HO_245001.out BK221.out (by decide); intro e_; exact h_ (by rw [e_]; rfl)) _; (with_reducible repeat (first|apply kN|apply kD|apply kA)); exact BK221.out⟩, ⟨by (with_reducible repeat (first|apply kN|apply kD|apply kA)); refine blk_far ?_ (by have h_ := Kd.R_ne HO_245001.out BK222.out (by decide); intro e_; exact h_ (by rw [e_]; rfl)) _; (with_reducible repeat (first|apply kN|apply kD|apply kA)); exact BK222.out⟩, ⟨by (with_reducible repeat (first|apply kN|apply kD|apply kA)); refine blk_far ?_ (by have h_ := Kd.R_ne HO_245001.out BK244.out (by decide); intro e_; exact h_ (by rw [e_]; rfl)) _; (with_reducible repeat (first|apply kN|apply kD|apply kA)); exact BK244.out⟩, ⟨by repeat (first | (with_reducible first|exact HB.out|apply bA|apply bN|apply bD|refine bS ?_ GB76.out|refine bS ?_ GE218.out|refine bS ?_ GE219.out|refine bS ?_ GE220.out|refine bS ?_ GE221.out|refine bS ?_ GE222.out|refine bS ?_ GE244.out)|exact HB.out)⟩⟩
                ·rw [if_neg c75] at H
                 exact absurd H (by simp)
               ·rw [if_neg c74] at H
                exact absurd H (by simp)
              ·rw [if_neg c71] at H
               exact absurd H (by simp)
             ·rw [if_neg c70] at H
              exact absurd H (by simp)
            ·rw [if_neg c69] at H
             exact absurd H (by simp)
           ·rw [if_neg c68] at H
            have c68b0 : decide (x49_3 < (l2_1.length : Int)) = false := decide_eq_false c68
            clear c68
            as_aux_lemma =>
             have H' := Aside0.mk H
             clear H
             go_wp2
             go_roundg k3
             case measure => have := HJ4.out; have := HK2.out; have := HK3.out; omega
             case rel => exact ⟨(wrap64 (x41_2 + 1)), (x245001_3), (x245003_3), (x245005_3), (u245001), (u245003), (u245005), (by first | rfl | (simp; done) | (simp [*]; done)), H', ⟨by have := HJ4.out; have := HK2.out; have := HK3.out; omega⟩, ⟨by (with_reducible repeat (first|apply rA|apply rN|apply rD)); exact HO_245000.out⟩, ⟨by (with_reducible repeat (first|apply rA|apply rN|apply rD)); exact HO_245001.out⟩, ⟨by (with_reducible repeat (first|apply rA|apply rN|apply rD)); exact HO_245002.out⟩, ⟨by (with_reducible repeat (first|apply rA|apply rN|apply rD)); exact HO_245003.out⟩, ⟨by (with_reducible repeat (first|apply rA|apply rN|apply rD)); exact HO_245004.out⟩, ⟨by (with_reducible repeat (first|apply rA|apply rN|apply rD)); exact HO_245005.out⟩, ⟨by (with_reducible repeat (first|apply kN|apply kD|apply kA)); exact BK218.out⟩, ⟨by (with_reducible repeat (first|apply kN|apply kD|apply kA)); exact BK219.out⟩, ⟨by (with_reducible repeat (first|apply kN|apply kD|apply kA)); exact BK220.out⟩, ⟨by (with_reducible repeat (first|apply kN|apply kD|apply kA)); exact BK221.out⟩, ⟨by (with_reducible repeat (first|apply kN|apply kD|apply kA)); exact BK222.out⟩, ⟨by (with_reducible repeat (first|apply kN|apply kD|apply kA)); exact BK244.out⟩, ⟨by repeat (first | (with_reducible first|exact HB.out|apply bA|apply bN|apply bD|refine bS ?_ GE218.out|refine bS ?_ GE219.out|refine bS ?_ GE220.out|refine bS ?_ GE221.out|refine bS ?_ GE222.out|refine bS ?_ GE244.out)|exact HB.out)⟩⟩
        ·rw [if_neg c61] at H
         exact absurd H (by simp)
       ·rw [if_neg c60] at H
        exact absurd H (by simp)
      ·rw [if_neg c59] at H
       have c59b0 : decide (x41_2 < (l3_1.length : Int)) = false := decide_eq_false c59
       clear c59
       have H' := Aside0.mk H
       clear H
       have hnb79 := NB220_218.out
       have hnc79 := NB218_220.out
       have hnb80 := NB220_219.out
       have hnc80 := NB219_220.out
       have hnb81 := NB220_221.out
       have hnc81 := NB221_220.out
       have hnb82 := NB220_222.out
       have hnc82 := NB222_220.out
       have hnb83 := NB220_244.out
       have hnc83 := NB244_220.out
       have hcz84_0 : wr.cell? ⟨gb220, 0, none⟩ = some (.slice A2_0 l2_0.length c2_0) := (blk_cell BK220.out 0).trans rfl
       have hcz84_1 : wr.cell? ⟨gb220, 1, none⟩ = some (.slice A2_1 l2_1.length c2_1) := (blk_cell BK220.out 1).trans rfl
       have hfz84_0 := blk_frozen BK220.out 0
       have hfz84_1 := blk_frozen BK220.out 1
       go_wp2
       go_loopg [74] k2 (fun kq v74 w' => ∃ (x74_3 : Int) (x245001_3 : List Int) (x245003_3 : List Int) (x245005_3 : List Int) (u245001 : Value) (u245003 : Value) (u245005 : Value), v74 = .int .i64 x74_3 ∧ Aside0 (dense_Back.l2 kq (l2_1.length : Int) x74_3 l0_0 l0_1 l3_0 l3_1 t226 x245001_3 t232 x245003_3 t238 x245005_3 = some (r1, r2, r3, r4, r5, r6, r7)) ∧ Aside0 (kq ≤ k2) ∧ Aside0 (Kd.R (Kd.int .i64) 3 w' w.heap.size (fun k_ => some k_ ≠ ((.slice Ao44 t232.length co44) : Value).ownBlock ∧ some k_ ≠ ((.slice Ao42 t238.length co42) : Value).ownBlock) (.slice Ao46 t226.length co46) t226) ∧ Aside0 (Kd.R (Kd.int .i64) 47 w' w.heap.size (fun k_ => some k_ ≠ (u245003 : Value).ownBlock ∧ some k_ ≠ (u245005 : Value).ownBlock) u245001 x245001_3) ∧ Aside0 (Kd.R (Kd.int .i64) 3 w' w.heap.size (fun k_ => some k_ ≠ ((.slice Ao46 t226.length co46) : Value).ownBlock ∧ some k_ ≠ ((.slice Ao42 t238.length co42) : Value).ownBlock) (.slice Ao44 t232.length co44) t232) ∧ Aside0 (Kd.R (Kd.int .i64) 47 w' w.heap.size (fun k_ => some k_ ≠ (u245001 : Value).ownBlock ∧ some k_ ≠ (u245005 : Value).ownBlock) u245003 x245003_3) ∧ Aside0 (Kd.R (Kd.int .i64) 3 w' w.heap.size (fun k_ => some k_ ≠ ((.slice Ao46 t226.length co46) : Value).ownBlock ∧ some k_ ≠ ((.slice Ao44 t232.length co44) : Value).ownBlock) (.slice Ao42 t238.length co42) t238) ∧ Aside0 (Kd.R (Kd.int .i64) 47 w' w.heap.size (fun k_ => some k_ ≠ (u245001 : Value).ownBlock ∧ some k_ ≠ (u245003 : Value).ownBlock) u245005 x245005_3) ∧ Aside0 (w'.heap[gb218]? = some (.cells #[(.slice A0_0 l0_0.length c0_0), (.slice A0_1 l0_1.length c0_1)] 26 (0, 0))) ∧ Aside0 (w'.heap[gb219]? = some (.cells #[(.slice A1_0 l1_0.length c1_0), (.slice A1_1 l1_1.length c1_1)] 26 (0, 0))) ∧ Aside0 (w'.heap[gb220]? = some (.cells #[(.slice A2_0 l2_0.length c2_0), (.slice A2_1 l2_1.length c2_1)] 26 (0, 0))) ∧ Aside0 (w'.heap[gb221]? = some (.cells #[(.slice A3_0 l3_0.length c3_0), (.slice A3_1 l3_1.length c3_1)] 26 (0, 0))) ∧ Aside0 (w'.heap[gb222]? = some (.cells #[(.slice none 0 0), (.slice none 0 0), (.slice none 0 0), (.slice none 0 0), (.slice none 0 0), (.slice none 0 0)] 39 (0, 0))) ∧ Aside0 (w'.heap[gb244]? = some (.cells #[(.slice Ao46 t226.length co46), u245001, (.slice Ao44 t232.length co44), u245003, (.slice Ao42 t238.length co42), u245005] 39 (0, 0))) ∧ Aside0 (Below w.heap.size w w'))
       case atStart => exact ⟨(0), (x245001_2), (x245003_2), (x245005_2), (u245001), (u245003), (u245005), (by first | rfl | (simp; done) | (simp [*]; done)), H', ⟨Nat.le_refl _⟩, ⟨by (with_reducible repeat (first|apply rA|apply rN|apply rD)); exact HO_245000.out⟩, ⟨by (with_reducible repeat (first|apply rA|apply rN|apply rD)); exact HO_245001.out⟩, ⟨by (with_reducible repeat (first|apply rA|apply rN|apply rD)); exact HO_245002.out⟩, ⟨by (with_reducible repeat (first|apply rA|apply rN|apply rD)); exact HO_245003.out⟩, ⟨by (with_reducible repeat (first|apply rA|apply rN|apply rD)); exact HO_245004.out⟩, ⟨by (with_reducible repeat (first|apply rA|apply rN|apply rD)); exact HO_245005.out⟩, ⟨by (with_reducible repeat (first|apply kN|apply kD|apply kA)); exact BK218.out⟩, ⟨by (with_reducible repeat (first|apply kN|apply kD|apply kA)); exact BK219.out⟩, ⟨by (with_reducible repeat (first|apply kN|apply kD|apply kA)); exact BK220.out⟩, ⟨by (with_reducible repeat (first|apply kN|apply kD|apply kA)); exact BK221.out⟩, ⟨by (with_reducible repeat (first|apply kN|apply kD|apply kA)); exact BK222.out⟩, ⟨by (with_reducible repeat (first|apply kN|apply kD|apply kA)); exact BK244.out⟩, ⟨by repeat (first | (with_reducible first|exact HB.out|apply bA|apply bN|apply bD|refine bS ?_ GE218.out|refine bS ?_ GE219.out|refine bS ?_ GE220.out|refine bS ?_ GE221.out|refine bS ?_ GE222.out|refine bS ?_ GE244.out)|exact HB.out)⟩⟩
       case round =>
        clear H'
        (try clear c59); (try clear c59b0); (try clear c60); (try clear c60b0); (try clear c61); (try clear c61b0); (try clear c68); (try clear c68b0); (try clear c69); (try clear c69b0); (try clear c70); (try clear c70b0); (try clear c71); (try clear c71b0); (try clear c71b1); (try clear c74); (try clear c74b0); (try clear c75); (try clear c75b0); (try clear p76); (try clear q76); (try clear hcz58_0); (try clear hcz58_1); (try clear hcz67_0); (try clear hcz67_1); (try clear hcz84_0); (try clear hcz84_1); (try clear hfz58_0); (try clear hfz58_1); (try clear hfz67_0); (try clear hfz67_1); (try clear hfz84_0); (try clear hfz84_1); (try clear hx245_0); (try clear hx246_0); (try clear hx247_0); (try clear hx76_0); (try clear p245); (try clear p246); (try clear p247); (try clear p76); (try clear q245); (try clear q246); (try clear q247); (try clear q76)
        obtain ⟨x74_3, x245001_3, x245003_3, x245005_3, u245001, u245003, u245005, rfl, HA, HK3, HO_245000, HO_245001, HO_245002, HO_245003, HO_245004, HO_245005, BK218, BK219, BK220, BK221, BK222, BK244, HB⟩ := hrel
        cases gk with
        | zero => exact absurd HA.out (by simp [dense_Back.l2])
        | succ k3 =>
         have H := HA.out
         clear HA
         simp only [dense_Back.l2] at H
         by_cases c85 : x74_3 < (l2_1.length : Int)
         ·rw [if_pos c85] at H
          have c85b0 : decide (x74_3 < (l2_1.length : Int)) = true := decide_eq_true c85
          clear c85
          replace H := Option.bind_eq_some_iff.mp H
          obtain ⟨t250, A860, H⟩ := H
          replace H : ((fix_Dot.f k3 t250 l3_1).bind fun t253 => (if 0 ≤ x74_3 then (if x74_3 < (x245005_3.length : Int) then (dense_Back.l2 k3 (l2_1.length : Int) (wrap64 (x74_3 + 1)) l0_0 l0_1 l3_0 l3_1 t226 x245001_3 t232 x245003_3 t238 (x245005_3.set (x74_3 : Int).toNat t253)) else (none)) else (none))) = some (r1, r2, r3, r4, r5, r6, r7) := H
          have A86 := Aside0.mk A860
          clear A860
          replace H := Option.bind_eq_some_iff.mp H
          obtain ⟨t253, A870, H⟩ := H
          replace H : (if 0 ≤ x74_3 then (if x74_3 < (x245005_3.length : Int) then (dense_Back.l2 k3 (l2_1.length : Int) (wrap64 (x74_3 + 1)) l0_0 l0_1 l3_0 l3_1 t226 x245001_3 t232 x245003_3 t238 (x245005_3.set (x74_3 : Int).toNat t253)) else (none)) else (none)) = some (r1, r2, r3, r4, r5, r6, r7) := H
          have A87 := Aside0.mk A870
          clear A870
          by_cases c88 : 0 ≤ x74_3
          ·rw [if_pos c88] at H
           have c88b0 : decide (0 ≤ x74_3) = true := decide_eq_true c88
           clear c88
           by_cases c89 : x74_3 < (x245005_3.length : Int)
           ·rw [if_pos c89] at H
            have c89b0 : decide (x74_3 < (x245005_3.length : Int)) = true := decide_eq_true c89
            clear c89
            obtain ⟨y254, hy254⟩ : ∃ y_ : List Int, y_ = (x245005_3.set (x74_3 : Int).toNat t253) := ⟨_, rfl⟩
            replace H : (dense_Back.l2 k3 (l2_1.length : Int) (wrap64 (x74_3 + 1)) l0_0 l0_1 l3_0 l3_1 t226 x245001_3 t232 x245003_3 t238 y254) = some (r1, r2, r3, r4, r5, r6, r7) := by first | (rw [hy254]; with_reducible exact H) | (have H2_ := (Option.bind_some _ _).symm.trans H; rw [hy254]; with_reducible exact H2_) | (have H2_ := (Option.bind_some _ _).symm.trans H; with_reducible exact H2_) | with_reducible exact H | (rw [hy254]; exact H)|exact H
            have Ny254 := Aside0.mk hy254
            clear hy254
            as_aux_lemma =>
             have H' := Aside0.mk H
             clear H
             try go_wp2
             have n0_ := aM (Kd.R_drew HO_245000.out)
             have n1_ := aM (Kd.R_drew HO_245001.out)
             have n2_ := aM (Kd.R_drew HO_245002.out)
             have n3_ := aM (Kd.R_drew HO_245003.out)
             have n4_ := aM (Kd.R_drew HO_245004.out)
             have n5_ := aM (Kd.R_drew HO_245005.out)
             have n6_ := aM (blk_drew BK218.out)
             have n7_ := aM (blk_drew BK219.out)
             have n8_ := aM (blk_drew BK220.out)
             have n9_ := aM (blk_drew BK221.out)
             have n10_ := aM (blk_drew BK222.out)
             have n11_ := aM (blk_drew BK244.out)
             have n12_ := aM (below_drew1 HB.out)
             clear HO_245000
             clear HO_245001
             clear HO_245002
             clear HO_245003
             clear HO_245004
             clear HO_245005
             clear BK218
             clear BK219
             clear BK220
             clear BK221
             clear BK222
             clear BK244
             clear HB
             have HO_245000 := n0_
             have HO_245001 := n1_
             have HO_245002 := n2_
             have HO_245003 := n3_
             have HO_245004 := n4_
             have HO_245005 := n5_
             have BK218 := n6_
             have BK219 := n7_
             have BK220 := n8_
             have BK221 := n9_
             have BK222 := n10_
             have BK244 := n11_
             have HB := n12_
             clear n0_ n1_ n2_ n3_ n4_ n5_ n6_ n7_ n8_ n9_ n10_ n11_ n12_
             refine start_ (n := 12) (S := fun w' => w'.cell? ⟨gb244, 0, none⟩ = some (.slice Ao46 t226.length co46) ∧ w'.cell? ⟨gb244, 1, none⟩ = some (u245001) ∧ w'.cell? ⟨gb244, 2, none⟩ = some (.slice Ao44 t232.length co44) ∧ w'.cell? ⟨gb244, 3, none⟩ = some (u245003) ∧ w'.cell? ⟨gb244, 4, none⟩ = some (.slice Ao42 t238.length co42) ∧ w'.cell? ⟨gb244, 5, none⟩ = some (u245005) ∧ w'.cell? ⟨gb218, 0, none⟩ = some (.slice A0_0 l0_0.length c0_0) ∧ w'.cell? ⟨gb218, 1, none⟩ = some (.slice A0_1 l0_1.length c0_1) ∧ w'.cell? ⟨gb221, 0, none⟩ = some (.slice A3_0 l3_0.length c3_0) ∧ w'.cell? ⟨gb221, 1, none⟩ = some (.slice A3_1 l3_1.length c3_1)) (ds := [11]) #[false, false, false, false, false, false, false, false, false, false, false, false] (by kernel_rfl) rfl rfl ⟨(blk_cell BK244.out 0).trans rfl, (blk_cell BK244.out 1).trans rfl, (blk_cell BK244.out 2).trans rfl, (blk_cell BK244.out 3).trans rfl, (blk_cell BK244.out 4).trans rfl, (blk_cell BK244.out 5).trans rfl, (blk_cell BK218.out 0).trans rfl, (blk_cell BK218.out 1).trans rfl, (blk_cell BK221.out 0).trans rfl, (blk_cell BK221.out 1).trans rfl⟩ (fun hHeld => ?_); refine with_tabW dense_Back.tab16 dense_Back.bits16 (fun HT_ HW_ => ?_)
             generalize wr.drew = w91 at HO_245000 HO_245001 HO_245002 HO_245003 HO_245004 HO_245005 BK218 BK219 BK220 BK221 BK222 BK244 HB hHeld ⊢
             refine pure_ (i := 0) (N := some 77) (v := ?_) (a' := ?_) #[true, false, false, false, false, false, false, false, false, false, false, false] rfl rfl (any_of HT_.out (by kernel_rfl)) (fun _ _ _ h => h) (Or.inl ⟨by rfl, ?_⟩) ?_ ?_
             rotate_left
             ·intro w'
              go_simp
              with_reducible rfl
             rotate_left
             ·simp only [Act.put, List.setIfInBounds_toArray, List.set_cons_zero, List.set_cons_succ, i64_w, i32_w]
              rfl
             refine pure_ (i := 1) (N := some 78) (v := ?_) (a' := ?_) #[true, true, false, false, false, false, false, false, false, false, false, false] rfl rfl (any_of HT_.out (by kernel_rfl)) (fun _ _ _ h => h) (Or.inl ⟨by rfl, ?_⟩) ?_ ?_
             rotate_left
             ·intro w'
              go_simp
              with_reducible rfl
             rotate_left
             ·simp only [Act.put, List.setIfInBounds_toArray, List.set_cons_zero, List.set_cons_succ, i64_w, i32_w]
              rfl
             refine pure_ (i := 3) (N := some 80) (v := ?_) (a' := ?_) #[true, true, false, true, false, false, false, false, false, false, false, false] rfl rfl (any_of HT_.out (by kernel_rfl)) (fun _ _ _ h => h) (Or.inl ⟨by rfl, ?_⟩) ?_ ?_
             rotate_left
             ·intro w'
              go_simp
              with_reducible rfl
             rotate_left
             ·simp only [Act.put, List.setIfInBounds_toArray, List.set_cons_zero, List.set_cons_succ, i64_w, i32_w]
              rfl
             refine pure_ (i := 5) (N := some 82) (v := ?_) (a' := ?_) #[true, true, false, true, false, true, false, false, false, false, false, false] rfl rfl (any_of HT_.out (by kernel_rfl)) (fun _ _ _ h => h) (Or.inl ⟨by rfl, ?_⟩) ?_ ?_
             rotate_left
             ·intro w'
              go_simp
              with_reducible rfl
             rotate_left
             ·simp only [Act.put, List.setIfInBounds_toArray, List.set_cons_zero, List.set_cons_succ, i64_w, i32_w]
              rfl
             refine pure_ (i := 7) (N := some 84) (v := ?_) (a' := ?_) #[true, true, false, true, false, true, false, true, false, false, false, false] rfl rfl (any_of HT_.out (by kernel_rfl)) (fun _ _ _ h => h) (Or.inl ⟨by rfl, ?_⟩) ?_ ?_
             rotate_left
             ·intro w'
              go_simp
              with_reducible rfl
             rotate_left
             ·simp only [Act.put, List.setIfInBounds_toArray, List.set_cons_zero, List.set_cons_succ, i64_w, i32_w]
              rfl
             refine take_ (i := 2) (N := some 79) (v := ?_) (a' := ?_) #[true, true, true, true, false, true, false, true, false, false, false, false] rfl rfl (take_ofW HT_.out HW_.out (by kernel_rfl)) (fun _ _ _ h => h) (Or.inl ⟨by rfl, ?_⟩) hHeld ?_ ?_
             rotate_left
             ·rintro w' ⟨s0, s1, s2, s3, s4, s5, s6, s7, s8, s9⟩
              go_simp
              with_reducible rfl
             rotate_left
             ·simp only [Act.put, List.setIfInBounds_toArray, List.set_cons_zero, List.set_cons_succ, i64_w, i32_w]
              rfl
             refine take_ (i := 4) (N := some 81) (v := ?_) (a' := ?_) #[true, true, true, true, true, true, false, true, false, false, false, false] rfl rfl (take_ofW HT_.out HW_.out (by kernel_rfl)) (fun _ _ _ h => h) (Or.inl ⟨by rfl, ?_⟩) hHeld ?_ ?_
             rotate_left
             ·rintro w' ⟨s0, s1, s2, s3, s4, s5, s6, s7, s8, s9⟩
              go_simp
              with_reducible rfl
             rotate_left
             ·simp only [Act.put, List.setIfInBounds_toArray, List.set_cons_zero, List.set_cons_succ, i64_w, i32_w]
              rfl
             refine take_ (i := 8) (N := some 85) (v := ?_) (a' := ?_) #[true, true, true, true, true, true, false, true, true, false, false, false] rfl rfl (take_ofW HT_.out HW_.out (by kernel_rfl)) (fun _ _ _ h => h) (Or.inl ⟨by rfl, ?_⟩) hHeld ?_ ?_
             rotate_left
             ·rintro w' ⟨s0, s1, s2, s3, s4, s5, s6, s7, s8, s9⟩
              go_simp
              with_reducible rfl
             rotate_left
             ·simp only [Act.put, List.setIfInBounds_toArray, List.set_cons_zero, List.set_cons_succ, i64_w, i32_w]
              rfl
             refine one_ (i := 6) (N := some 83) #[true, true, true, true, true, true, true, true, true, false, false, false] rfl rfl (one_of HT_.out (by kernel_rfl)) (by decide) (fun K hK => ?_)
             refine goes_ Try.func21 (by kernel_rfl) rfl #[.agg #[.slice A0_0 l0_0.length c0_0, .slice A0_1 l0_1.length c0_1], .int .i64 x74_3] (by rfl) rfl rfl (by (try simp only [List.map_toArray, List.map_cons, List.map_nil]); first | done | rfl | (simp only [List.length_drop, List.length_take]; rfl)) ?_
             with_reducible refine (dense_Column.calls k3 _ _ l0_0 _ _ l0_1 x74_3 t250 _ ?side1 ?side2 ?side3 ?side4 A86.out).mono ?_
             (case side1 => repeat (first|exact (Kd.C_below HR0_0.out HB.out) | with_reducible first|apply cA|apply cN|apply cD))
             (case side2 => exact HC0_0.out)
             (case side3 => repeat (first|exact (Kd.C_below HR0_1.out HB.out) | with_reducible first|apply cA|apply cN|apply cD))
             (case side4 => exact HC0_1.out)
             rintro e w92 ⟨v251, rfl, ho0, hb⟩
             refine ⟨_, rfl, ?_⟩
             have n0_ := aM (Kd.R_below (by (with_reducible repeat (first|apply rA|apply rN|apply rD)); exact HO_245000.out) hb)
             have n1_ := aM (Kd.R_elder' (by (with_reducible repeat (first|apply rA|apply rN|apply rD)); exact HO_245001.out) (Kd.R_base ho0) hb)
             have n2_ := aM (Kd.R_below (by (with_reducible repeat (first|apply rA|apply rN|apply rD)); exact HO_245002.out) hb)
             have n3_ := aM (Kd.R_elder' (by (with_reducible repeat (first|apply rA|apply rN|apply rD)); exact HO_245003.out) (Kd.R_base ho0) hb)
             have n4_ := aM (Kd.R_below (by (with_reducible repeat (first|apply rA|apply rN|apply rD)); exact HO_245004.out) hb)
             have n5_ := aM (Kd.R_elder' (by (with_reducible repeat (first|apply rA|apply rN|apply rD)); exact HO_245005.out) (Kd.R_base ho0) hb)
             have n6_ := aM (Kd.R_lower (Kd.R_new' (Kd.R_new' (Kd.R_new' ho0 (Kd.R_lt (by (with_reducible repeat (first|apply rA|apply rN|apply rD)); exact HO_245001.out))) (Kd.R_lt (by (with_reducible repeat (first|apply rA|apply rN|apply rD)); exact HO_245003.out))) (Kd.R_lt (by (with_reducible repeat (first|apply rA|apply rN|apply rD)); exact HO_245005.out))) (below_size (by repeat (first | (with_reducible first|exact HB.out|apply bA|apply bN|apply bD|refine bS ?_ GE218.out|refine bS ?_ GE219.out|refine bS ?_ GE220.out|refine bS ?_ GE221.out|refine bS ?_ GE222.out|refine bS ?_ GE244.out)|exact HB.out))))
             have n7_ := aM (blk_below (g := gb218) (o := .cells #[.slice A0_0 l0_0.length c0_0, .slice A0_1 l0_1.length c0_1] 26 (0, 0)) (by (with_reducible repeat (first|apply kN|apply kD|apply kA)); exact BK218.out) hb)
             have n8_ := aM (blk_below (g := gb219) (o := .cells #[.slice A1_0 l1_0.length c1_0, .slice A1_1 l1_1.length c1_1] 26 (0, 0)) (by (with_reducible repeat (first|apply kN|apply kD|apply kA)); exact BK219.out) hb)
             have n9_ := aM (blk_below (g := gb220) (o := .cells #[.slice A2_0 l2_0.length c2_0, .slice A2_1 l2_1.length c2_1] 26 (0, 0)) (by (with_reducible repeat (first|apply kN|apply kD|apply kA)); exact BK220.out) hb)
             have n10_ := aM (blk_below (g := gb221) (o := .cells #[.slice A3_0 l3_0.length c3_0, .slice A3_1 l3_1.length c3_1] 26 (0, 0)) (by (with_reducible repeat (first|apply kN|apply kD|apply kA)); exact BK221.out) hb)
             have n11_ := aM (blk_below (g := gb222) (o := .cells #[.slice none 0 0, .slice none 0 0, .slice none 0 0, .slice none 0 0, .slice none 0 0, .slice none 0 0] 39 (0, 0)) (by (with_reducible repeat (first|apply kN|apply kD|apply kA)); exact BK222.out) hb)
             have n12_ := aM (blk_below (g := gb244) (o := .cells #[.slice Ao46 t226.length co46, u245001, .slice Ao44 t232.length co44, u245003, .slice Ao42 t238.length co42, u245005] 39 (0, 0)) (by (with_reducible repeat (first|apply kN|apply kD|apply kA)); exact BK244.out) hb)
             have n13_ := aM (below_step (by repeat (first | (with_reducible first|exact HB.out|apply bA|apply bN|apply bD|refine bS ?_ GE218.out|refine bS ?_ GE219.out|refine bS ?_ GE220.out|refine bS ?_ GE221.out|refine bS ?_ GE222.out|refine bS ?_ GE244.out)|exact HB.out)) hb)
             clear HO_245000
             clear HO_245001
             clear HO_245002
             clear HO_245003
             clear HO_245004
             clear HO_245005
             clear BK218
             clear BK219
             clear BK220
             clear BK221
             clear BK222
             clear BK244
             clear HB
             have HO_245000 := n0_
             have HO_245001 := n1_
             have HO_245002 := n2_
             have HO_245003 := n3_
             have HO_245004 := n4_
             have HO_245005 := n5_
             have HO252 := n6_
             have BK218 := n7_
             have BK219 := n8_
             have BK220 := n9_
             have BK221 := n10_
             have BK222 := n11_
             have BK244 := n12_
             have HB := n13_
             clear n0_ n1_ n2_ n3_ n4_ n5_ n6_ n7_ n8_ n9_ n10_ n11_ n12_ n13_
             (try clear hb)
             skip
             (try clear hk)
             skip
             (try clear ho0)
             obtain ⟨Ao93, co93, eo93⟩ := Kd.R_slice HO252.out
             (first | subst eo93 | (injection eo93 with f1_ f2_ f3_; have f4_ := f1_.symm; have f5_ := f3_.symm; clear f1_ f2_ f3_; subst f4_; subst f5_))
             refine hK.out _ _ ⟨(blk_cell BK244.out 0).trans rfl, (blk_cell BK244.out 1).trans rfl, (blk_cell BK244.out 2).trans rfl, (blk_cell BK244.out 3).trans rfl, (blk_cell BK244.out 4).trans rfl, (blk_cell BK244.out 5).trans rfl, (blk_cell BK218.out 0).trans rfl, (blk_cell BK218.out 1).trans rfl, (blk_cell BK221.out 0).trans rfl, (blk_cell BK221.out 1).trans rfl⟩ (fun hHeld => ?_)
             clear hK K
             refine norm_ (a' := ?_) ?_ ?_
             rotate_left
             ·show Act.put _ (some 83) _ = _
              simp only [Act.put, List.setIfInBounds_toArray, List.set_cons_zero, List.set_cons_succ, i64_w, i32_w]
              rfl
             refine one_ (i := 9) (N := some 86) #[true, true, true, true, true, true, true, true, true, true, false, false] rfl rfl (one_of HT_.out (by kernel_rfl)) (by decide) (fun K hK => ?_)
             refine goes_ Try.func29 (by kernel_rfl) rfl #[.slice Ao93 t250.length co93, .slice A3_1 l3_1.length c3_1] (by rfl) rfl rfl (by (try simp only [List.map_toArray, List.map_cons, List.map_nil]); first | done | rfl | (simp only [List.length_drop, List.length_take]; rfl)) ?_
             with_reducible refine (fix_Dot.calls k3 _ _ t250 _ _ l3_1 t253 _ ?side1 ?side2 ?side3 ?side4 A87.out).mono ?_
             (case side1 => repeat (first|exact (Kd.R_reads' HO252.out).2.2 | with_reducible first|apply cA|apply cN|apply cD))
             (case side2 => exact (Kd.R_reads' HO252.out).2.1)
             (case side3 => repeat (first|exact (Kd.C_below HR3_1.out HB.out) | with_reducible first|apply cA|apply cN|apply cD))
             (case side4 => exact HC3_1.out)
             rintro e w94 ⟨rfl, hb⟩
             refine ⟨_, rfl, ?_⟩
             have n0_ := aM (Kd.R_below (by (with_reducible repeat (first|apply rA|apply rN|apply rD)); exact HO_245000.out) hb)
             have n1_ := aM (Kd.R_below (by (with_reducible repeat (first|apply rA|apply rN|apply rD)); exact HO_245001.out) hb)
             have n2_ := aM (Kd.R_below (by (with_reducible repeat (first|apply rA|apply rN|apply rD)); exact HO_245002.out) hb)
             have n3_ := aM (Kd.R_below (by (with_reducible repeat (first|apply rA|apply rN|apply rD)); exact HO_245003.out) hb)
             have n4_ := aM (Kd.R_below (by (with_reducible repeat (first|apply rA|apply rN|apply rD)); exact HO_245004.out) hb)
             have n5_ := aM (Kd.R_below (by (with_reducible repeat (first|apply rA|apply rN|apply rD)); exact HO_245005.out) hb)
             have n6_ := aM (Kd.R_below (by (with_reducible repeat (first|apply rA|apply rN|apply rD)); exact HO252.out) hb)
             have n7_ := aM (blk_below (g := gb218) (o := .cells #[.slice A0_0 l0_0.length c0_0, .slice A0_1 l0_1.length c0_1] 26 (0, 0)) (by (with_reducible repeat (first|apply kN|apply kD|apply kA)); exact BK218.out) hb)
             have n8_ := aM (blk_below (g := gb219) (o := .cells #[.slice A1_0 l1_0.length c1_0, .slice A1_1 l1_1.length c1_1] 26 (0, 0)) (by (with_reducible repeat (first|apply kN|apply kD|apply kA)); exact BK219.out) hb)
             have n9_ := aM (blk_below (g := gb220) (o := .cells #[.slice A2_0 l2_0.length c2_0, .slice A2_1 l2_1.length c2_1] 26 (0, 0)) (by (with_reducible repeat (first|apply kN|apply kD|apply kA)); exact BK220.out) hb)
             have n10_ := aM (blk_below (g := gb221) (o := .cells #[.slice A3_0 l3_0.length c3_0, .slice A3_1 l3_1.length c3_1] 26 (0, 0)) (by (with_reducible repeat (first|apply kN|apply kD|apply kA)); exact BK221.out) hb)
             have n11_ := aM (blk_below (g := gb222) (o := .cells #[.slice none 0 0, .slice none 0 0, .slice none 0 0, .slice none 0 0, .slice none 0 0, .slice none 0 0] 39 (0, 0)) (by (with_reducible repeat (first|apply kN|apply kD|apply kA)); exact BK222.out) hb)
             have n12_ := aM (blk_below (g := gb244) (o := .cells #[.slice Ao46 t226.length co46, u245001, .slice Ao44 t232.length co44, u245003, .slice Ao42 t238.length co42, u245005] 39 (0, 0)) (by (with_reducible repeat (first|apply kN|apply kD|apply kA)); exact BK244.out) hb)
             have n13_ := aM (below_step (by repeat (first | (with_reducible first|exact HB.out|apply bA|apply bN|apply bD|refine bS ?_ GE218.out|refine bS ?_ GE219.out|refine bS ?_ GE220.out|refine bS ?_ GE221.out|refine bS ?_ GE222.out|refine bS ?_ GE244.out)|exact HB.out)) hb)
             clear HO_245000
             clear HO_245001
             clear HO_245002
             clear HO_245003
             clear HO_245004
             clear HO_245005
             clear HO252
             clear BK218
             clear BK219
             clear BK220
             clear BK221
             clear BK222
             clear BK244
             clear HB
             have HO_245000 := n0_
             have HO_245001 := n1_
             have HO_245002 := n2_
             have HO_245003 := n3_
             have HO_245004 := n4_
             have HO_245005 := n5_
             have HO252 := n6_
             have BK218 := n7_
             have BK219 := n8_
             have BK220 := n9_
             have BK221 := n10_
             have BK222 := n11_
             have BK244 := n12_
             have HB := n13_
             clear n0_ n1_ n2_ n3_ n4_ n5_ n6_ n7_ n8_ n9_ n10_ n11_ n12_ n13_
             (try clear hb)
             skip
             (try clear hk)
             skip
             have p90 : 0 ≤ (x74_3 : Int) := of_decide_eq_true (by first | (with_reducible assumption) | assumption)
             have q90 : (x74_3 : Int) < ((x245005_3.length : Int) : Int) := of_decide_eq_true (by first | (with_reducible assumption) | assumption)
             obtain ⟨go90, co90, eo90, gb90, gl90, cl90, HG90⟩ := Kd.R_form HO_245005.out (by omega)
             (first | cases eo90 | (injection eo90 with ea_ en_ ec_; (first | subst ea_ | (injection ea_ with ea_; subst ea_)); subst ec_; clear en_))
             have GB90 := Aside0.mk gb90
             have GG90 := Aside0.mk HG90
             clear gb90 gl90 HG90
             obtain ⟨hx90_0, hf90_0⟩ := Kd.R_celln 0 HO_245005.out (x74_3 : Int) p90 q90
             replace p90 := eq_true p90
             replace q90 := eq_true q90
             have HP95 := Kd.R_putn HO_245005.out (x74_3 : Int) t253
             rw [← Ny254.out] at HP95
             have HQ95 := Aside0.mk HP95
             clear HP95
             refine hK.out _ _ ⟨(blk_cell BK244.out 0).trans rfl, (blk_cell BK244.out 1).trans rfl, (blk_cell BK244.out 2).trans rfl, (blk_cell BK244.out 3).trans rfl, (blk_cell BK244.out 4).trans rfl, (blk_cell BK244.out 5).trans rfl, (blk_cell BK218.out 0).trans rfl, (blk_cell BK218.out 1).trans rfl, (blk_cell BK221.out 0).trans rfl, (blk_cell BK221.out 1).trans rfl⟩ (fun hHeld => ?_)
             clear hK K
             refine norm_ (a' := ?_) ?_ ?_
             rotate_left
             ·show Act.put _ (some 86) _ = _
              simp only [Act.put, List.setIfInBounds_toArray, List.set_cons_zero, List.set_cons_succ, i64_w, i32_w]
              rfl
             refine pure_ (i := 10) (N := some 87) (v := ?_) (a' := ?_) #[true, true, true, true, true, true, true, true, true, true, true, false] rfl rfl (any_of HT_.out (by kernel_rfl)) (fun _ _ _ h => h) (Or.inl ⟨by rfl, ?_⟩) ?_ ?_
             rotate_left
             ·intro w'
              go_simp
              with_reducible rfl
             rotate_left
             ·simp only [Act.put, List.setIfInBounds_toArray, List.set_cons_zero, List.set_cons_succ, i64_w, i32_w]
              rfl
             refine last_ (i := 11) (N := none) #[true, true, true, true, true, true, true, true, true, true, true, true] rfl rfl (one_of HT_.out (by kernel_rfl)) (by decide) (fun K hK => ?_)
             refine skip_ (w1 := ?_) (by rfl) rfl ?_ ?_
             rotate_left
             ·go_simp
              rfl
             refine hK.out _ _ ?_
             clear hK K
             refine done_ (done_of HT_.out (by kernel_rfl)) ?_
             try go_wp2
             go_roundg k3
             case measure => have := HJ4.out; have := HK2.out; have := HK3.out; omega
             case rel => exact ⟨(wrap64 (x74_3 + 1)), (x245001_3), (x245003_3), (y254), (u245001), (u245003), (.slice (some ⟨go90, 0, none⟩) x245005_3.length co90), (by first | rfl | (simp; done) | (simp [*]; done)), H', ⟨by have := HJ4.out; have := HK2.out; have := HK3.out; omega⟩, ⟨by (with_reducible repeat (first|apply rA|apply rN|apply rD)); exact Kd.R_mono (Kd.R_far (p := ⟨go90, (x74_3 : Int).toNat, none⟩) (Kd.R_types HO_245000.out GG90.out (by decide)) (fun _ hk => hk.2) (.int .i64 t253)) (fun _ hk => ⟨hk.1.1, hk.1.2⟩)⟩, ⟨by (with_reducible repeat (first|apply rA|apply rN|apply rD)); exact Kd.R_mono (Kd.R_far (p := ⟨go90, (x74_3 : Int).toNat, none⟩) (Kd.R_mono HO_245001.out (fun k_ hk => (⟨hk, fun e_ => hk.1.2 (by rw [e_]; rfl)⟩ : _ ∧ k_ ≠ go90))) (fun _ hk => hk.2) (.int .i64 t253)) (fun _ hk => ⟨hk.1.1.1, hk.1.1.2⟩)⟩, ⟨by (with_reducible repeat (first|apply rA|apply rN|apply rD)); exact Kd.R_mono (Kd.R_far (p := ⟨go90, (x74_3 : Int).toNat, none⟩) (Kd.R_types HO_245002.out GG90.out (by decide)) (fun _ hk => hk.2) (.int .i64 t253)) (fun _ hk => ⟨hk.1.1, hk.1.2⟩)⟩, ⟨by (with_reducible repeat (first|apply rA|apply rN|apply rD)); exact Kd.R_mono (Kd.R_far (p := ⟨go90, (x74_3 : Int).toNat, none⟩) (Kd.R_mono HO_245003.out (fun k_ hk => (⟨hk, fun e_ => hk.1.2 (by rw [e_]; rfl)⟩ : _ ∧ k_ ≠ go90))) (fun _ hk => hk.2) (.int .i64 t253)) (fun _ hk => ⟨hk.1.1.1, hk.1.1.2⟩)⟩, ⟨by (with_reducible repeat (first|apply rA|apply rN|apply rD)); exact Kd.R_mono (Kd.R_far (p := ⟨go90, (x74_3 : Int).toNat, none⟩) (Kd.R_types HO_245004.out GG90.out (by decide)) (fun _ hk => hk.2) (.int .i64 t253)) (fun _ hk => ⟨hk.1.1, hk.1.2⟩)⟩, ⟨by (with_reducible repeat (first|apply rA|apply rN|apply rD)); exact Kd.R_mono HQ95.out (fun _ hk => ⟨hk.1.1, hk.1.2⟩)⟩, ⟨by (with_reducible repeat (first|apply kN|apply kD|apply kA)); refine blk_far ?_ (by have h_ := Kd.R_ne HO_245005.out BK218.out (by decide); intro e_; exact h_ (by rw [e_]; rfl)) _; (with_reducible repeat (first|apply kN|apply kD|apply kA)); exact BK218.out⟩, ⟨by (with_reducible repeat (first|apply kN|apply kD|apply kA)); refine blk_far ?_ (by have h_ := Kd.R_ne HO_245005.out BK219.out (by decide); intro e_; exact h_ (by rw [e_]; rfl)) _; (with_reducible repeat (first|apply kN|apply kD|apply kA)); exact BK219.out⟩, ⟨by (with_reducible repeat (first|apply kN|apply kD|apply kA)); refine blk_far ?_ (by have h_ := Kd.R_ne HO_245005.out BK220.out (by decide); intro e_; exact h_ (by rw [e_]; rfl)) _; (with_reducible repeat (first|apply kN|apply kD|apply kA)); exact BK220.out⟩, ⟨by (with_reducible repeat (first|apply kN|apply kD|apply kA)); refine blk_far ?_ (by have h_ := Kd.R_ne HO_245005.out BK221.out (by decide); intro e_; exact h_ (by rw [e_]; rfl)) _; (with_reducible repeat (first|apply kN|apply kD|apply kA)); exact BK221.out⟩, ⟨by (with_reducible repeat (first|apply kN|apply kD|apply kA)); refine blk_far ?_ (by have h_ := Kd.R_ne HO_245005.out BK222.out (by decide); intro e_; exact h_ (by rw [e_]; rfl)) _; (with_reducible repeat (first|apply kN|apply kD|apply kA)); exact BK222.out⟩, ⟨by (with_reducible repeat (first|apply kN|apply kD|apply kA)); refine blk_far ?_ (by have h_ := Kd.R_ne HO_245005.out BK244.out (by decide); intro e_; exact h_ (by rw [e_]; rfl)) _; (with_reducible repeat (first|apply kN|apply kD|apply kA)); exact BK244.out⟩, ⟨by repeat (first | (with_reducible first|exact HB.out|apply bA|apply bN|apply bD|refine bS ?_ GB90.out|refine bS ?_ GE218.out|refine bS ?_ GE219.out|refine bS ?_ GE220.out|refine bS ?_ GE221.out|refine bS ?_ GE222.out|refine bS ?_ GE244.out)|exact HB.out)⟩⟩
           ·rw [if_neg c89] at H
            exact absurd H (by simp)
          ·rw [if_neg c88] at H
           exact absurd H (by simp)
         ·rw [if_neg c85] at H
          have c85b0 : decide (x74_3 < (l2_1.length : Int)) = false := decide_eq_false c85
          clear c85
          as_aux_lemma =>
           simp only [Option.some.injEq, Prod.mk.injEq] at H
           obtain ⟨rfl, rfl, rfl, rfl, rfl, rfl, rfl⟩ := H
           have hnb96 := NB244_218.out
           have hnc96 := NB218_244.out
           have hnb97 := NB244_219.out
           have hnc97 := NB219_244.out
           have hnb98 := NB244_220.out
           have hnc98 := NB220_244.out
           have hnb99 := NB244_221.out
           have hnc99 := NB221_244.out
           have hnb100 := NB244_222.out
           have hnc100 := NB222_244.out
           have hcz101_0 : wr.cell? ⟨gb244, 0, none⟩ = some (.slice Ao46 t226.length co46) := (blk_cell BK244.out 0).trans rfl
           have hcz101_1 : wr.cell? ⟨gb244, 1, none⟩ = some (u245001) := (blk_cell BK244.out 1).trans rfl
           have hcz101_2 : wr.cell? ⟨gb244, 2, none⟩ = some (.slice Ao44 t232.length co44) := (blk_cell BK244.out 2).trans rfl
           have hcz101_3 : wr.cell? ⟨gb244, 3, none⟩ = some (u245003) := (blk_cell BK244.out 3).trans rfl
           have hcz101_4 : wr.cell? ⟨gb244, 4, none⟩ = some (.slice Ao42 t238.length co42) := (blk_cell BK244.out 4).trans rfl
           have hcz101_5 : wr.cell? ⟨gb244, 5, none⟩ = some (u245005) := (blk_cell BK244.out 5).trans rfl
           have hfz101_0 := blk_frozen BK244.out 0
           have hfz101_1 := blk_frozen BK244.out 1
           have hfz101_2 := blk_frozen BK244.out 2
           have hfz101_3 := blk_frozen BK244.out 3
           have hfz101_4 := blk_frozen BK244.out 4
           have hfz101_5 := blk_frozen BK244.out 5
           have hnb102 := NB222_218.out
           have hnc102 := NB218_222.out
           have hnb103 := NB222_219.out
           have hnc103 := NB219_222.out
           have hnb104 := NB222_220.out
           have hnc104 := NB220_222.out
           have hnb105 := NB222_221.out
           have hnc105 := NB221_222.out
           have hcz106_0 : wr.cell? ⟨gb222, 0, none⟩ = some (.slice none 0 0) := (blk_cell BK222.out 0).trans rfl
           have hcz106_1 : wr.cell? ⟨gb222, 1, none⟩ = some (.slice none 0 0) := (blk_cell BK222.out 1).trans rfl
           have hcz106_2 : wr.cell? ⟨gb222, 2, none⟩ = some (.slice none 0 0) := (blk_cell BK222.out 2).trans rfl
           have hcz106_3 : wr.cell? ⟨gb222, 3, none⟩ = some (.slice none 0 0) := (blk_cell BK222.out 3).trans rfl
           have hcz106_4 : wr.cell? ⟨gb222, 4, none⟩ = some (.slice none 0 0) := (blk_cell BK222.out 4).trans rfl
           have hcz106_5 : wr.cell? ⟨gb222, 5, none⟩ = some (.slice none 0 0) := (blk_cell BK222.out 5).trans rfl
           have hfz106_0 := blk_frozen BK222.out 0
           have hfz106_1 := blk_frozen BK222.out 1
           have hfz106_2 := blk_frozen BK222.out 2
           have hfz106_3 := blk_frozen BK222.out 3
           have hfz106_4 := blk_frozen BK222.out 4
           have hfz106_5 := blk_frozen BK222.out 5
           obtain ⟨Ao107, co107, eo107⟩ := Kd.R_slice HO_245001.out
           subst eo107
           obtain ⟨Ao108, co108, eo108⟩ := Kd.R_slice HO_245003.out
           subst eo108
           obtain ⟨Ao109, co109, eo109⟩ := Kd.R_slice HO_245005.out
           subst eo109
           go_wp2
           refine bodyPost_ret (results_ct rfl _ _ gb222 39 #[.slice Ao46 t226.length co46, .slice Ao107 x245001_3.length co107, .slice Ao44 t232.length co44, .slice Ao108 x245003_3.length co108, .slice Ao42 t238.length co42, .slice Ao109 x245005_3.length co109] (0, 0) _ rfl (by (with_reducible repeat (first|apply kN|apply kD|apply kA)); refine blk_put (cs := #[.slice Ao46 t226.length co46, .slice Ao107 x245001_3.length co107, .slice Ao44 t232.length co44, .slice Ao108 x245003_3.length co108, .slice Ao42 t238.length co42, .slice none 0 0]) ?_ 5 _ rfl; (with_reducible repeat (first|apply kN|apply kD|apply kA)); refine blk_put (cs := #[.slice Ao46 t226.length co46, .slice Ao107 x245001_3.length co107, .slice Ao44 t232.length co44, .slice Ao108 x245003_3.length co108, .slice none 0 0, .slice none 0 0]) ?_ 4 _ rfl; (with_reducible repeat (first|apply kN|apply kD|apply kA)); refine blk_put (cs := #[.slice Ao46 t226.length co46, .slice Ao107 x245001_3.length co107, .slice Ao44 t232.length co44, .slice none 0 0, .slice none 0 0, .slice none 0 0]) ?_ 3 _ rfl; (with_reducible repeat (first|apply kN|apply kD|apply kA)); refine blk_put (cs := #[.slice Ao46 t226.length co46, .slice Ao107 x245001_3.length co107, .slice none 0 0, .slice none 0 0, .slice none 0 0, .slice none 0 0]) ?_ 2 _ rfl; (with_reducible repeat (first|apply kN|apply kD|apply kA)); refine blk_put (cs := #[.slice Ao46 t226.length co46, .slice none 0 0, .slice none 0 0, .slice none 0 0, .slice none 0 0, .slice none 0 0]) ?_ 1 _ rfl; (with_reducible repeat (first|apply kN|apply kD|apply kA)); refine blk_put (cs := #[.slice none 0 0, .slice none 0 0, .slice none 0 0, .slice none 0 0, .slice none 0 0, .slice none 0 0]) ?_ 0 _ rfl; (with_reducible repeat (first|apply kN|apply kD|apply kA)); exact BK222.out) Try.underlying39 rfl (by kernel_rfl)) rfl ?_
           exact ⟨_, _, _, _, _, _, by first | rfl | (simp [errW_none, errW_some] <;> rfl) | (simp [*, errW_none, errW_some] <;> rfl), by (with_reducible repeat (first|apply rA|apply rN|apply rD)); exact Kd.R_mono (Kd.R_far (p := ⟨gb222, 5, none⟩) (Kd.R_far (p := ⟨gb222, 4, none⟩) (Kd.R_far (p := ⟨gb222, 3, none⟩) (Kd.R_far (p := ⟨gb222, 2, none⟩) (Kd.R_far (p := ⟨gb222, 1, none⟩) (Kd.R_far (p := ⟨gb222, 0, none⟩) (Kd.R_types HO_245000.out BK222.out (by decide)) (fun _ hk => hk.2) (.slice Ao46 t226.length co46)) (fun _ hk => hk.2) (.slice Ao107 x245001_3.length co107)) (fun _ hk => hk.2) (.slice Ao44 t232.length co44)) (fun _ hk => hk.2) (.slice Ao108 x245003_3.length co108)) (fun _ hk => hk.2) (.slice Ao42 t238.length co42)) (fun _ hk => hk.2) (.slice Ao109 x245005_3.length co109)) (fun _ hk => ⟨hk.1.1, hk.1.2⟩), by (with_reducible repeat (first|apply rA|apply rN|apply rD)); exact Kd.R_mono (Kd.R_far (p := ⟨gb222, 5, none⟩) (Kd.R_far (p := ⟨gb222, 4, none⟩) (Kd.R_far (p := ⟨gb222, 3, none⟩) (Kd.R_far (p := ⟨gb222, 2, none⟩) (Kd.R_far (p := ⟨gb222, 1, none⟩) (Kd.R_far (p := ⟨gb222, 0, none⟩) (Kd.R_types HO_245001.out BK222.out (by decide)) (fun _ hk => hk.2) (.slice Ao46 t226.length co46)) (fun _ hk => hk.2) (.slice Ao107 x245001_3.length co107)) (fun _ hk => hk.2) (.slice Ao44 t232.length co44)) (fun _ hk => hk.2) (.slice Ao108 x245003_3.length co108)) (fun _ hk => hk.2) (.slice Ao42 t238.length co42)) (fun _ hk => hk.2) (.slice Ao109 x245005_3.length co109)) (fun _ hk => ⟨hk.1.1, hk.1.2⟩), by (with_reducible repeat (first|apply rA|apply rN|apply rD)); exact Kd.R_mono (Kd.R_far (p := ⟨gb222, 5, none⟩) (Kd.R_far (p := ⟨gb222, 4, none⟩) (Kd.R_far (p := ⟨gb222, 3, none⟩) (Kd.R_far (p := ⟨gb222, 2, none⟩) (Kd.R_far (p := ⟨gb222, 1, none⟩) (Kd.R_far (p := ⟨gb222, 0, none⟩) (Kd.R_types HO_245002.out BK222.out (by decide)) (fun _ hk => hk.2) (.slice Ao46 t226.length co46)) (fun _ hk => hk.2) (.slice Ao107 x245001_3.length co107)) (fun _ hk => hk.2) (.slice Ao44 t232.length co44)) (fun _ hk => hk.2) (.slice Ao108 x245003_3.length co108)) (fun _ hk => hk.2) (.slice Ao42 t238.length co42)) (fun _ hk => hk.2) (.slice Ao109 x245005_3.length co109)) (fun _ hk => ⟨hk.1.1, hk.1.2⟩), by (with_reducible repeat (first|apply rA|apply rN|apply rD)); exact Kd.R_mono (Kd.R_far (p := ⟨gb222, 5, none⟩) (Kd.R_far (p := ⟨gb222, 4, none⟩) (Kd.R_far (p := ⟨gb222, 3, none⟩) (Kd.R_far (p := ⟨gb222, 2, none⟩) (Kd.R_far (p := ⟨gb222, 1, none⟩) (Kd.R_far (p := ⟨gb222, 0, none⟩) (Kd.R_types HO_245003.out BK222.out (by decide)) (fun _ hk => hk.2) (.slice Ao46 t226.length co46)) (fun _ hk => hk.2) (.slice Ao107 x245001_3.length co107)) (fun _ hk => hk.2) (.slice Ao44 t232.length co44)) (fun _ hk => hk.2) (.slice Ao108 x245003_3.length co108)) (fun _ hk => hk.2) (.slice Ao42 t238.length co42)) (fun _ hk => hk.2) (.slice Ao109 x245005_3.length co109)) (fun _ hk => ⟨hk.1.1, hk.1.2⟩), by (with_reducible repeat (first|apply rA|apply rN|apply rD)); exact Kd.R_mono (Kd.R_far (p := ⟨gb222, 5, none⟩) (Kd.R_far (p := ⟨gb222, 4, none⟩) (Kd.R_far (p := ⟨gb222, 3, none⟩) (Kd.R_far (p := ⟨gb222, 2, none⟩) (Kd.R_far (p := ⟨gb222, 1, none⟩) (Kd.R_far (p := ⟨gb222, 0, none⟩) (Kd.R_types HO_245004.out BK222.out (by decide)) (fun _ hk => hk.2) (.slice Ao46 t226.length co46)) (fun _ hk => hk.2) (.slice Ao107 x245001_3.length co107)) (fun _ hk => hk.2) (.slice Ao44 t232.length co44)) (fun _ hk => hk.2) (.slice Ao108 x245003_3.length co108)) (fun _ hk => hk.2) (.slice Ao42 t238.length co42)) (fun _ hk => hk.2) (.slice Ao109 x245005_3.length co109)) (fun _ hk => ⟨hk.1.1, hk.1.2⟩), by (with_reducible repeat (first|apply rA|apply rN|apply rD)); exact Kd.R_mono (Kd.R_far (p := ⟨gb222, 5, none⟩) (Kd.R_far (p := ⟨gb222, 4, none⟩) (Kd.R_far (p := ⟨gb222, 3, none⟩) (Kd.R_far (p := ⟨gb222, 2, none⟩) (Kd.R_far (p := ⟨gb222, 1, none⟩) (Kd.R_far (p := ⟨gb222, 0, none⟩) (Kd.R_types HO_245005.out BK222.out (by decide)) (fun _ hk => hk.2) (.slice Ao46 t226.length co46)) (fun _ hk => hk.2) (.slice Ao107 x245001_3.length co107)) (fun _ hk => hk.2) (.slice Ao44 t232.length co44)) (fun _ hk => hk.2) (.slice Ao108 x245003_3.length co108)) (fun _ hk => hk.2) (.slice Ao42 t238.length co42)) (fun _ hk => hk.2) (.slice Ao109 x245005_3.length co109)) (fun _ hk => ⟨hk.1.1, hk.1.2⟩), by repeat (first | (with_reducible first|exact HB.out|apply bA|apply bN|apply bD|refine bS ?_ GE218.out|refine bS ?_ GE219.out|refine bS ?_ GE220.out|refine bS ?_ GE221.out|refine bS ?_ GE222.out|refine bS ?_ GE244.out)|exact HB.out)⟩

end Go.Proofs.Ytgmgjddfceilhaa.PDen
