-- printed by wip/tools/xp.py of this project (not trusted: Lean checks it)
import Derived.Test.YtmekcfmhaflghaaPTenx0
import Derived.Test.YtmekcfmhaflghaaPTenx1
import Derived.Test.YtmekcfmhaflghaaPTenx2
import Derived.Test.YtmekcfmhaflghaaPTenx3
import Derived.Test.YtmekcfmhaflghaaPTenx4
import Derived.Test.YtmekcfmhaflghaaPTenx5
namespace Go.Proofs.Ytmekcfmhaflghaa.PTen
open Go.RowKit Go.Proofs.YtmekcfmhaflghaaW.PrintWords Go.Proofs.YtmekcfmhaflghaaW.PrintLast Go.Proofs.YtmekcfmhaflghaaW.PrintMore Go.Proofs.Ytmekcfmhaflghaa.XW
attribute [local go_sem] max2_int min2_int max_two min_two max_three min_three max_four min_four max_five min_five   -- for this text's walks alone
set_option linter.unusedVariables false
set_option linter.unusedSimpArgs false

/-! ### athanorlaw04_TensorMakes: function 3 -/
mutual
def athanorlaw04_TensorMakes.j0 : Nat → Int → Int → Int → Bool → List Int → List Int → List Int → List Int → List Int → List Int → List Int → List Int → Option (Bool)
 | 0, _, _, _, _, _, _, _, _, _, _, _, _ => none
 | k + 1, x1, x6, x8, x44, x275000, x275001, x285000, x285001, x293000, x293001, x300000, x300001 => if x44 = true then (none) else (athanorlaw04_TensorMakes.l0 k x1 x6 x8 (x300001.length : Int) 0 x275000 x275001 x285000 x285001 x293000 x293001 x300000 x300001)
def athanorlaw04_TensorMakes.l0 : Nat → Int → Int → Int → Int → Int → List Int → List Int → List Int → List Int → List Int → List Int → List Int → List Int → Option (Bool)
 | 0, _, _, _, _, _, _, _, _, _, _, _, _, _ => none
 | k + 1, x1, x6, x8, x47, x48, x275000, x275001, x285000, x285001, x293000, x293001, x300000, x300001 => if x48 < x47 then (if 0 ≤ x48 then (if x48 < (x300001.length : Int) then ((some (x300001.set (x48 : Int).toNat (wrap64 ((rd x300001 x48) + 1)) : List Int)).bind fun y304 => (if x48 ≥ (x275001.length : Int) then (none) else (if x48 < (x275001.length : Int) then (if (wrap64 ((rd x275001 x48) + 1)) = (rd y304 x48) then (athanorlaw04_TensorMakes.l0 k x1 x6 x8 x47 (wrap64 (x48 + 1)) x275000 x275001 x285000 x285001 x293000 x293001 x300000 y304) else (none)) else (none)))) else (none)) else (none)) else ((athanorref03_Right.f k x275000).bind fun t307 => (if t307 = true then (if x6 = 0 then ((athanorref03_Size.f k x275000).bind fun t309 => (if (x285001.length : Int) = t309 then ((shape_Shape_Equal.f k x285000 x275000).bind fun t310 => (athanorlaw04_TensorMakes.j2 k x1 x8 (!t310) x275000 x275001 x285000 x285001 x293000 x293001)) else (athanorlaw04_TensorMakes.j2 k x1 x8 true x275000 x275001 x285000 x285001 x293000 x293001))) else (athanorlaw04_TensorMakes.j2 k x1 x8 true x275000 x275001 x285000 x285001 x293000 x293001)) else (if x6 = 20 then (if x8 = 20 then (if (x285001.length : Int) = 0 then ((athanorlaw04_awake.f k).bind fun t308 => (some t308)) else (none)) else (none)) else (none))))
def athanorlaw04_TensorMakes.j2 : Nat → Int → Int → Bool → List Int → List Int → List Int → List Int → List Int → List Int → Option (Bool)
 | 0, _, _, _, _, _, _, _, _, _ => none
 | k + 1, x1, x8, x115, x275000, x275001, x285000, x285001, x293000, x293001 => if x115 = true then (none) else (athanorlaw04_TensorMakes.l1 k x1 x8 x285001 (x285001.length : Int) 0 x275000 x275001 x293000 x293001)
def athanorlaw04_TensorMakes.l1 : Nat → Int → Int → List Int → Int → Int → List Int → List Int → List Int → List Int → Option (Bool)
 | 0, _, _, _, _, _, _, _, _, _ => none
 | k + 1, x1, x8, x117, x118, x119, x275000, x275001, x293000, x293001 => if x119 < x118 then (if 0 ≤ x119 then (if x119 < (x117.length : Int) then (if (rd x117 x119) = x1 then (athanorlaw04_TensorMakes.l1 k x1 x8 x117 x118 (wrap64 (x119 + 1)) x275000 x275001 x293000 x293001) else (none)) else (none)) else (none)) else ((athanorlaw04_right.f k x275000 x275001).bind fun t312 => (if ((x8 == 0) == t312) = true then (if x8 = 0 then ((tensor_Equal_fix_F.f k x293000 x293001 x275000 x275001).bind fun t313 => (if t313 = true then ((athanorlaw04_awake.f k).bind fun t314 => (some t314)) else (none))) else ((athanorlaw04_awake.f k).bind fun t315 => (some t315))) else (none)))
end
def athanorlaw04_TensorMakes.f (k : Nat) (l0_0 : List Int) (l0_1 : List Int) (a1 : Int) : Option (Bool) := (athanorlaw04_small.f l0_0 l0_1).bind fun t275 => (if t275 = true then ((tensor_Make_fix_F.f k l0_0 a1).bind fun bt277 => ((tensor_Of_fix_F.f k l0_0 l0_1).bind fun bt285 => ((tensor_Grid_fix_F_Copy.f l0_0 l0_1).bind fun bt293 => ((tensor_Grid_fix_F_Right.f k l0_0 l0_1).bind fun t300 => ((athanorlaw04_right.f k l0_0 l0_1).bind fun t301 => (if (t300 != t301) = true then (athanorlaw04_TensorMakes.j0 k a1 bt277.2.2 bt285.2.2 true l0_0 l0_1 bt277.1 bt277.2.1 bt285.1 bt285.2.1 bt293.1 bt293.2) else ((tensor_Equal_fix_F.f k bt293.1 bt293.2 l0_0 l0_1).bind fun t302 => (athanorlaw04_TensorMakes.j0 k a1 bt277.2.2 bt285.2.2 (!t302) l0_0 l0_1 bt277.1 bt277.2.1 bt285.1 bt285.2.1 bt293.1 bt293.2)))))))) else ((athanorlaw04_awake.f k).bind fun t276 => (some t276)))
theorem athanorlaw04_TensorMakes.mono_l : ∀ k, (∀ y0 y1 y2 y3 y4 y5 y6 y7 y8 y9 y10 y11, LeO (athanorlaw04_TensorMakes.j0 k y0 y1 y2 y3 y4 y5 y6 y7 y8 y9 y10 y11) (athanorlaw04_TensorMakes.j0 (k + 1) y0 y1 y2 y3 y4 y5 y6 y7 y8 y9 y10 y11)) ∧ (∀ y0 y1 y2 y3 y4 y5 y6 y7 y8 y9 y10 y11 y12, LeO (athanorlaw04_TensorMakes.l0 k y0 y1 y2 y3 y4 y5 y6 y7 y8 y9 y10 y11 y12) (athanorlaw04_TensorMakes.l0 (k + 1) y0 y1 y2 y3 y4 y5 y6 y7 y8 y9 y10 y11 y12)) ∧ (∀ y0 y1 y2 y3 y4 y5 y6 y7 y8, LeO (athanorlaw04_TensorMakes.j2 k y0 y1 y2 y3 y4 y5 y6 y7 y8) (athanorlaw04_TensorMakes.j2 (k + 1) y0 y1 y2 y3 y4 y5 y6 y7 y8)) ∧ (∀ y0 y1 y2 y3 y4 y5 y6 y7 y8, LeO (athanorlaw04_TensorMakes.l1 k y0 y1 y2 y3 y4 y5 y6 y7 y8) (athanorlaw04_TensorMakes.l1 (k + 1) y0 y1 y2 y3 y4 y5 y6 y7 y8))
 | 0 => ⟨fun _ _ _ _ _ _ _ _ _ _ _ _ r h => by simp [athanorlaw04_TensorMakes.j0] at h, fun _ _ _ _ _ _ _ _ _ _ _ _ _ r h => by simp [athanorlaw04_TensorMakes.l0] at h, fun _ _ _ _ _ _ _ _ _ r h => by simp [athanorlaw04_TensorMakes.j2] at h, fun _ _ _ _ _ _ _ _ _ r h => by simp [athanorlaw04_TensorMakes.l1] at h⟩
 | k + 1 => by
  obtain ⟨ih0, ih1, ih2, ih3⟩ := athanorlaw04_TensorMakes.mono_l k
  refine ⟨?_, ?_, ?_, ?_⟩
  ·intro y0 y1 y2 y3 y4 y5 y6 y7 y8 y9 y10 y11
   unfold athanorlaw04_TensorMakes.j0
   repeat' first
   | (with_reducible exact ih0 _ _ _ _ _ _ _ _ _ _ _ _)
   | (with_reducible exact ih1 _ _ _ _ _ _ _ _ _ _ _ _ _)
   | (with_reducible exact ih2 _ _ _ _ _ _ _ _ _)
   | (with_reducible exact ih3 _ _ _ _ _ _ _ _ _)
   | (with_reducible exact athanorlaw04_awake.mono _)
   | (with_reducible exact athanorlaw04_right.mono _ _ _)
   | (with_reducible exact athanorref03_Right.mono _ _)
   | (with_reducible exact athanorref03_Size.mono _ _)
   | (with_reducible exact shape_Shape_Equal.mono _ _ _)
   | (with_reducible exact tensor_Equal_fix_F.mono _ _ _ _ _)
   | (with_reducible exact tensor_Grid_fix_F_Right.mono _ _ _)
   | (with_reducible exact tensor_Make_fix_F.mono _ _ _)
   | (with_reducible exact tensor_Of_fix_F.mono _ _ _)
   | (with_reducible exact LeO.refl _)
   | (with_reducible exact LeO.none _)
   | (with_reducible refine LeO.ite ?_ ?_)
   | (with_reducible refine LeO.bind ?_ (fun _ => ?_))
   | exact ih0 _ _ _ _ _ _ _ _ _ _ _ _
   | exact ih1 _ _ _ _ _ _ _ _ _ _ _ _ _
   | exact ih2 _ _ _ _ _ _ _ _ _
   | exact ih3 _ _ _ _ _ _ _ _ _
   | exact athanorlaw04_awake.mono _
   | exact athanorlaw04_right.mono _ _ _
   | exact athanorref03_Right.mono _ _
   | exact athanorref03_Size.mono _ _
   | exact shape_Shape_Equal.mono _ _ _
   | exact tensor_Equal_fix_F.mono _ _ _ _ _
   | exact tensor_Grid_fix_F_Right.mono _ _ _
   | exact tensor_Make_fix_F.mono _ _ _
   | exact tensor_Of_fix_F.mono _ _ _
   | exact LeO.none _
   | refine LeO.ite ?_ ?_
   | refine LeO.bind ?_ (fun _ => ?_)
  ·intro y0 y1 y2 y3 y4 y5 y6 y7 y8 y9 y10 y11 y12
   unfold athanorlaw04_TensorMakes.l0
   repeat' first
   | (with_reducible exact ih0 _ _ _ _ _ _ _ _ _ _ _ _)
   | (with_reducible exact ih1 _ _ _ _ _ _ _ _ _ _ _ _ _)
   | (with_reducible exact ih2 _ _ _ _ _ _ _ _ _)
   | (with_reducible exact ih3 _ _ _ _ _ _ _ _ _)
   | (with_reducible exact athanorlaw04_awake.mono _)
   | (with_reducible exact athanorlaw04_right.mono _ _ _)
   | (with_reducible exact athanorref03_Right.mono _ _)
   | (with_reducible exact athanorref03_Size.mono _ _)
   | (with_reducible exact shape_Shape_Equal.mono _ _ _)
   | (with_reducible exact tensor_Equal_fix_F.mono _ _ _ _ _)
   | (with_reducible exact tensor_Grid_fix_F_Right.mono _ _ _)
   | (with_reducible exact tensor_Make_fix_F.mono _ _ _)
   | (with_reducible exact tensor_Of_fix_F.mono _ _ _)
   | (with_reducible exact LeO.refl _)
   | (with_reducible exact LeO.none _)
   | (with_reducible refine LeO.ite ?_ ?_)
   | (with_reducible refine LeO.bind ?_ (fun _ => ?_))
   | exact ih0 _ _ _ _ _ _ _ _ _ _ _ _
   | exact ih1 _ _ _ _ _ _ _ _ _ _ _ _ _
   | exact ih2 _ _ _ _ _ _ _ _ _
   | exact ih3 _ _ _ _ _ _ _ _ _
   | exact athanorlaw04_awake.mono _
   | exact athanorlaw04_right.mono _ _ _
   | exact athanorref03_Right.mono _ _
   | exact athanorref03_Size.mono _ _
   | exact shape_Shape_Equal.mono _ _ _
   | exact tensor_Equal_fix_F.mono _ _ _ _ _
   | exact tensor_Grid_fix_F_Right.mono _ _ _
   | exact tensor_Make_fix_F.mono _ _ _
   | exact tensor_Of_fix_F.mono _ _ _
   | exact LeO.none _
   | refine LeO.ite ?_ ?_
   | refine LeO.bind ?_ (fun _ => ?_)
  ·intro y0 y1 y2 y3 y4 y5 y6 y7 y8
   unfold athanorlaw04_TensorMakes.j2
   repeat' first
   | (with_reducible exact ih0 _ _ _ _ _ _ _ _ _ _ _ _)
   | (with_reducible exact ih1 _ _ _ _ _ _ _ _ _ _ _ _ _)
   | (with_reducible exact ih2 _ _ _ _ _ _ _ _ _)
   | (with_reducible exact ih3 _ _ _ _ _ _ _ _ _)
   | (with_reducible exact athanorlaw04_awake.mono _)
   | (with_reducible exact athanorlaw04_right.mono _ _ _)
   | (with_reducible exact athanorref03_Right.mono _ _)
   | (with_reducible exact athanorref03_Size.mono _ _)
   | (with_reducible exact shape_Shape_Equal.mono _ _ _)
   | (with_reducible exact tensor_Equal_fix_F.mono _ _ _ _ _)
   | (with_reducible exact tensor_Grid_fix_F_Right.mono _ _ _)
   | (with_reducible exact tensor_Make_fix_F.mono _ _ _)
   | (with_reducible exact tensor_Of_fix_F.mono _ _ _)
   | (with_reducible exact LeO.refl _)
   | (with_reducible exact LeO.none _)
   | (with_reducible refine LeO.ite ?_ ?_)
   | (with_reducible refine LeO.bind ?_ (fun _ => ?_))
   | exact ih0 _ _ _ _ _ _ _ _ _ _ _ _
   | exact ih1 _ _ _ _ _ _ _ _ _ _ _ _ _
   | exact ih2 _ _ _ _ _ _ _ _ _
   | exact ih3 _ _ _ _ _ _ _ _ _
   | exact athanorlaw04_awake.mono _
   | exact athanorlaw04_right.mono _ _ _
   | exact athanorref03_Right.mono _ _
   | exact athanorref03_Size.mono _ _
   | exact shape_Shape_Equal.mono _ _ _
   | exact tensor_Equal_fix_F.mono _ _ _ _ _
   | exact tensor_Grid_fix_F_Right.mono _ _ _
   | exact tensor_Make_fix_F.mono _ _ _
   | exact tensor_Of_fix_F.mono _ _ _
   | exact LeO.none _
   | refine LeO.ite ?_ ?_
   | refine LeO.bind ?_ (fun _ => ?_)
  ·intro y0 y1 y2 y3 y4 y5 y6 y7 y8
   unfold athanorlaw04_TensorMakes.l1
   repeat' first
   | (with_reducible exact ih0 _ _ _ _ _ _ _ _ _ _ _ _)
   | (with_reducible exact ih1 _ _ _ _ _ _ _ _ _ _ _ _ _)
   | (with_reducible exact ih2 _ _ _ _ _ _ _ _ _)
   | (with_reducible exact ih3 _ _ _ _ _ _ _ _ _)
   | (with_reducible exact athanorlaw04_awake.mono _)
   | (with_reducible exact athanorlaw04_right.mono _ _ _)
   | (with_reducible exact athanorref03_Right.mono _ _)
   | (with_reducible exact athanorref03_Size.mono _ _)
   | (with_reducible exact shape_Shape_Equal.mono _ _ _)
   | (with_reducible exact tensor_Equal_fix_F.mono _ _ _ _ _)
   | (with_reducible exact tensor_Grid_fix_F_Right.mono _ _ _)
   | (with_reducible exact tensor_Make_fix_F.mono _ _ _)
   | (with_reducible exact tensor_Of_fix_F.mono _ _ _)
   | (with_reducible exact LeO.refl _)
   | (with_reducible exact LeO.none _)
   | (with_reducible refine LeO.ite ?_ ?_)
   | (with_reducible refine LeO.bind ?_ (fun _ => ?_))
   | exact ih0 _ _ _ _ _ _ _ _ _ _ _ _
   | exact ih1 _ _ _ _ _ _ _ _ _ _ _ _ _
   | exact ih2 _ _ _ _ _ _ _ _ _
   | exact ih3 _ _ _ _ _ _ _ _ _
   | exact athanorlaw04_awake.mono _
   | exact athanorlaw04_right.mono _ _ _
   | exact athanorref03_Right.mono _ _
   | exact athanorref03_Size.mono _ _
   | exact shape_Shape_Equal.mono _ _ _
   | exact tensor_Equal_fix_F.mono _ _ _ _ _
   | exact tensor_Grid_fix_F_Right.mono _ _ _
   | exact tensor_Make_fix_F.mono _ _ _
   | exact tensor_Of_fix_F.mono _ _ _
   | exact LeO.none _
   | refine LeO.ite ?_ ?_
   | refine LeO.bind ?_ (fun _ => ?_)
theorem athanorlaw04_TensorMakes.mono : ∀ a0 a1 a2 k, LeO (athanorlaw04_TensorMakes.f k a0 a1 a2) (athanorlaw04_TensorMakes.f (k + 1) a0 a1 a2) := by
 intro a0 a1 a2 k
 obtain ⟨ih0, ih1, ih2, ih3⟩ := athanorlaw04_TensorMakes.mono_l k
 unfold athanorlaw04_TensorMakes.f
 repeat' first
   | (with_reducible exact ih0 _ _ _ _ _ _ _ _ _ _ _ _)
   | (with_reducible exact ih1 _ _ _ _ _ _ _ _ _ _ _ _ _)
   | (with_reducible exact ih2 _ _ _ _ _ _ _ _ _)
   | (with_reducible exact ih3 _ _ _ _ _ _ _ _ _)
   | (with_reducible exact athanorlaw04_awake.mono _)
   | (with_reducible exact athanorlaw04_right.mono _ _ _)
   | (with_reducible exact athanorref03_Right.mono _ _)
   | (with_reducible exact athanorref03_Size.mono _ _)
   | (with_reducible exact shape_Shape_Equal.mono _ _ _)
   | (with_reducible exact tensor_Equal_fix_F.mono _ _ _ _ _)
   | (with_reducible exact tensor_Grid_fix_F_Right.mono _ _ _)
   | (with_reducible exact tensor_Make_fix_F.mono _ _ _)
   | (with_reducible exact tensor_Of_fix_F.mono _ _ _)
   | (with_reducible exact LeO.refl _)
   | (with_reducible exact LeO.none _)
   | (with_reducible refine LeO.ite ?_ ?_)
   | (with_reducible refine LeO.bind ?_ (fun _ => ?_))
   | exact ih0 _ _ _ _ _ _ _ _ _ _ _ _
   | exact ih1 _ _ _ _ _ _ _ _ _ _ _ _ _
   | exact ih2 _ _ _ _ _ _ _ _ _
   | exact ih3 _ _ _ _ _ _ _ _ _
   | exact athanorlaw04_awake.mono _
   | exact athanorlaw04_right.mono _ _ _
   | exact athanorref03_Right.mono _ _
   | exact athanorref03_Size.mono _ _
   | exact shape_Shape_Equal.mono _ _ _
   | exact tensor_Equal_fix_F.mono _ _ _ _ _
   | exact tensor_Grid_fix_F_Right.mono _ _ _
   | exact tensor_Make_fix_F.mono _ _ _
   | exact tensor_Of_fix_F.mono _ _ _
   | exact LeO.none _
   | refine LeO.ite ?_ ?_
   | refine LeO.bind ?_ (fun _ => ?_)
def athanorlaw04_TensorMakes.T6 : Bool × List (List Nat × List Nat) := (true, [([], []), ([0], [0]), ([], []), ([2, 1], [2]), ([1, 3], [1, 3]), ([4, 3], [4]), ([5], [5]), ([5], [5]), ([6, 7, 5, 5], [5, 6, 7]), ([8, 5], [5, 8]), ([5, 9], [5, 9])])
def athanorlaw04_TensorMakes.B6 : List Nat := [0, 1, 0, 7, 15, 31, 63, 63, 255, 511, 1023]
theorem athanorlaw04_TensorMakes.tab6 : rtab .any (opsOf Try.f3 6) = athanorlaw04_TensorMakes.T6 := by kernel_rfl
theorem athanorlaw04_TensorMakes.bits6 : waitsOk athanorlaw04_TensorMakes.T6.2 athanorlaw04_TensorMakes.B6 = true := by kernel_rfl
set_option maxHeartbeats 8000000 in
set_option maxRecDepth 100000 in
theorem athanorlaw04_TensorMakes.calls (k : Nat) (A0_0 : Option Addr) (c0_0 : Nat) (l0_0 : List Int) (A0_1 : Option Addr) (c0_1 : Nat) (l0_1 : List Int) (a1 : Int) (r : Bool) (w : World) (hr0_0 : Kd.C (Kd.int .i64) w A0_0 l0_0.length l0_0) (hc0_0 : l0_0.length ≤ c0_0) (hr0_1 : Kd.C (Kd.int .i64) w A0_1 l0_1.length l0_1) (hc0_1 : l0_1.length ≤ c0_1) (h : athanorlaw04_TensorMakes.f k l0_0 l0_1 a1 = some r) :
  Calls Try.prog 3 #[.agg #[.slice A0_0 l0_0.length c0_0, .slice A0_1 l0_1.length c0_1], .int .i64 a1] w fun e w' => e = .returned (.bool r) ∧ Below w.heap.size w w' := by
 have hu26 := Try.underlying26
 have HR0_0 := Aside0.mk hr0_0
 have HC0_0 := Aside0.mk hc0_0
 clear hr0_0 hc0_0
 have HR0_1 := Aside0.mk hr0_1
 have HC0_1 := Aside0.mk hc0_1
 clear hr0_1 hc0_1
 have HB := Aside0.mk (Below.refl w.heap.size w)
 have H : ((athanorlaw04_small.f l0_0 l0_1).bind fun t275 => (if t275 = true then ((tensor_Make_fix_F.f k l0_0 a1).bind fun bt277 => ((tensor_Of_fix_F.f k l0_0 l0_1).bind fun bt285 => ((tensor_Grid_fix_F_Copy.f l0_0 l0_1).bind fun bt293 => ((tensor_Grid_fix_F_Right.f k l0_0 l0_1).bind fun t300 => ((athanorlaw04_right.f k l0_0 l0_1).bind fun t301 => (if (t300 != t301) = true then (athanorlaw04_TensorMakes.j0 k a1 bt277.2.2 bt285.2.2 true l0_0 l0_1 bt277.1 bt277.2.1 bt285.1 bt285.2.1 bt293.1 bt293.2) else ((tensor_Equal_fix_F.f k bt293.1 bt293.2 l0_0 l0_1).bind fun t302 => (athanorlaw04_TensorMakes.j0 k a1 bt277.2.2 bt285.2.2 (!t302) l0_0 l0_1 bt277.1 bt277.2.1 bt285.1 bt285.2.1 bt293.1 bt293.2)))))))) else ((athanorlaw04_awake.f k).bind fun t276 => (some t276)))) = some r := h
 clear h
 replace H := Option.bind_eq_some_iff.mp H
 obtain ⟨t275, A30, H⟩ := H
 replace H : (if t275 = true then ((tensor_Make_fix_F.f k l0_0 a1).bind fun bt277 => ((tensor_Of_fix_F.f k l0_0 l0_1).bind fun bt285 => ((tensor_Grid_fix_F_Copy.f l0_0 l0_1).bind fun bt293 => ((tensor_Grid_fix_F_Right.f k l0_0 l0_1).bind fun t300 => ((athanorlaw04_right.f k l0_0 l0_1).bind fun t301 => (if (t300 != t301) = true then (athanorlaw04_TensorMakes.j0 k a1 bt277.2.2 bt285.2.2 true l0_0 l0_1 bt277.1 bt277.2.1 bt285.1 bt285.2.1 bt293.1 bt293.2) else ((tensor_Equal_fix_F.f k bt293.1 bt293.2 l0_0 l0_1).bind fun t302 => (athanorlaw04_TensorMakes.j0 k a1 bt277.2.2 bt285.2.2 (!t302) l0_0 l0_1 bt277.1 bt277.2.1 bt285.1 bt285.2.1 bt293.1 bt293.2)))))))) else ((athanorlaw04_awake.f k).bind fun t276 => (some t276))) = some r := H
 have A3 := Aside0.mk A30
 clear A30
 by_cases c4 : t275 = true
 ·subst c4
  have H1 : ((tensor_Make_fix_F.f k l0_0 a1).bind fun bt277 => ((tensor_Of_fix_F.f k l0_0 l0_1).bind fun bt285 => ((tensor_Grid_fix_F_Copy.f l0_0 l0_1).bind fun bt293 => ((tensor_Grid_fix_F_Right.f k l0_0 l0_1).bind fun t300 => ((athanorlaw04_right.f k l0_0 l0_1).bind fun t301 => (if (t300 != t301) = true then (athanorlaw04_TensorMakes.j0 k a1 bt277.2.2 bt285.2.2 true l0_0 l0_1 bt277.1 bt277.2.1 bt285.1 bt285.2.1 bt293.1 bt293.2) else ((tensor_Equal_fix_F.f k bt293.1 bt293.2 l0_0 l0_1).bind fun t302 => (athanorlaw04_TensorMakes.j0 k a1 bt277.2.2 bt285.2.2 (!t302) l0_0 l0_1 bt277.1 bt277.2.1 bt285.1 bt285.2.1 bt293.1 bt293.2)))))))) = some r := by rw [if_pos rfl] at H; exact H
  clear H
  have H := H1
  clear H1
  replace H := Option.bind_eq_some_iff.mp H
  obtain ⟨⟨t277, t280, t283⟩, A50, H⟩ := H
  replace H : ((tensor_Of_fix_F.f k l0_0 l0_1).bind fun bt285 => ((tensor_Grid_fix_F_Copy.f l0_0 l0_1).bind fun bt293 => ((tensor_Grid_fix_F_Right.f k l0_0 l0_1).bind fun t300 => ((athanorlaw04_right.f k l0_0 l0_1).bind fun t301 => (if (t300 != t301) = true then (athanorlaw04_TensorMakes.j0 k a1 t283 bt285.2.2 true l0_0 l0_1 t277 t280 bt285.1 bt285.2.1 bt293.1 bt293.2) else ((tensor_Equal_fix_F.f k bt293.1 bt293.2 l0_0 l0_1).bind fun t302 => (athanorlaw04_TensorMakes.j0 k a1 t283 bt285.2.2 (!t302) l0_0 l0_1 t277 t280 bt285.1 bt285.2.1 bt293.1 bt293.2))))))) = some r := H
  have A5 := Aside0.mk A50
  clear A50
  replace H := Option.bind_eq_some_iff.mp H
  obtain ⟨⟨t285, t288, t291⟩, A60, H⟩ := H
  replace H : ((tensor_Grid_fix_F_Copy.f l0_0 l0_1).bind fun bt293 => ((tensor_Grid_fix_F_Right.f k l0_0 l0_1).bind fun t300 => ((athanorlaw04_right.f k l0_0 l0_1).bind fun t301 => (if (t300 != t301) = true then (athanorlaw04_TensorMakes.j0 k a1 t283 t291 true l0_0 l0_1 t277 t280 t285 t288 bt293.1 bt293.2) else ((tensor_Equal_fix_F.f k bt293.1 bt293.2 l0_0 l0_1).bind fun t302 => (athanorlaw04_TensorMakes.j0 k a1 t283 t291 (!t302) l0_0 l0_1 t277 t280 t285 t288 bt293.1 bt293.2)))))) = some r := H
  have A6 := Aside0.mk A60
  clear A60
  replace H := Option.bind_eq_some_iff.mp H
  obtain ⟨⟨t293, t296⟩, A70, H⟩ := H
  replace H : ((tensor_Grid_fix_F_Right.f k l0_0 l0_1).bind fun t300 => ((athanorlaw04_right.f k l0_0 l0_1).bind fun t301 => (if (t300 != t301) = true then (athanorlaw04_TensorMakes.j0 k a1 t283 t291 true l0_0 l0_1 t277 t280 t285 t288 t293 t296) else ((tensor_Equal_fix_F.f k t293 t296 l0_0 l0_1).bind fun t302 => (athanorlaw04_TensorMakes.j0 k a1 t283 t291 (!t302) l0_0 l0_1 t277 t280 t285 t288 t293 t296))))) = some r := H
  have A7 := Aside0.mk A70
  clear A70
  have HC8 := Aside0.mk H
  clear H
  go_enter Try.func3, Try.ntmps3
  go_upto_region 6 with (first | ((with_reducible refine gate_dst (N := 2) rfl ?_); (try (refine gate_guard (by rfl) ?_; dsimp only)); refine box_event ?hg (N := 2) ?hd (cs := #[.slice A0_0 l0_0.length c0_0, .slice A0_1 l0_1.length c0_1]) (t := 26) ?hr ?_; (case hd => rfl); (case hg => rfl); (case hr => first | (go_simp; done) | (go_simp; rfl)); intro gb274 hg w9 hbox hb; have n0_ := Aside0.mk (below_step (by repeat (first | (with_reducible first | exact HB.out | apply below_alloc | apply pw_below_drewN | apply below_drew1) | exact HB.out)) hb); have n1_ := Aside0.mk (hbox); have n2_ := Aside0.mk ((by rw [hg]; exact (below_size (by repeat (first | (with_reducible first | exact HB.out | apply below_alloc | apply pw_below_drewN | apply below_drew1) | exact HB.out))) : w.heap.size ≤ gb274)); have n3_ := Aside0.mk ((by rw [hg]; exact (below_size (by repeat (first | (with_reducible first | exact HB.out | apply below_alloc | apply pw_below_drewN | apply below_drew1) | exact HB.out))) : w.heap.size ≤ gb274)); clear HB; have HB := n0_; have BK274 := n1_; have GW274 := n2_; have GE274 := n3_; clear n0_ n1_ n2_ n3_; clear hb hbox hg; have hcz10_0 : w9.cell? ⟨gb274, 0, none⟩ = some (.slice A0_0 l0_0.length c0_0) := (blk_cell BK274.out 0).trans rfl; have hcz10_1 : w9.cell? ⟨gb274, 1, none⟩ = some (.slice A0_1 l0_1.length c0_1) := (blk_cell BK274.out 1).trans rfl; have hfz10_0 := blk_frozen BK274.out 0; have hfz10_1 := blk_frozen BK274.out 1) | ((with_reducible refine gate_callee (f := 8) rfl ?_); refine goesL_ (some 14) rfl rfl Try.func8 (by kernel_rfl) rfl #[.agg #[.slice A0_0 l0_0.length c0_0, .slice A0_1 l0_1.length c0_1]] rfl (by (try simp only [List.map_toArray, List.map_cons, List.map_nil]); first | done | rfl | (simp only [List.length_drop, List.length_take]; rfl)) ?_; (with_reducible refine (athanorlaw04_small.calls _ _ l0_0 _ _ l0_1 true _ ?side1 ?side2 ?side3 ?side4 A3.out).mono ?_); (case side1 => repeat (first | exact (Kd.C_below HR0_0.out HB.out) | (with_reducible refine Kd.C_alloc ?_ _) | (with_reducible refine Kd.C_drewN ?_ _) | (with_reducible refine Kd.C_drew ?_))); (case side2 => exact HC0_0.out); (case side3 => repeat (first | exact (Kd.C_below HR0_1.out HB.out) | (with_reducible refine Kd.C_alloc ?_ _) | (with_reducible refine Kd.C_drewN ?_ _) | (with_reducible refine Kd.C_drew ?_))); (case side4 => exact HC0_1.out); rintro e w11 ⟨rfl, hb⟩; refine ⟨_, rfl, ?_⟩; have n0_ := Aside0.mk (blk_below (g := gb274) (o := .cells #[.slice A0_0 l0_0.length c0_0, .slice A0_1 l0_1.length c0_1] 26 (0, 0)) (by (with_reducible repeat (first | refine blk_drewN ?_ _ | refine blk_drew ?_ | refine blk_alloc ?_ _)); exact BK274.out) hb); have n1_ := Aside0.mk (below_step (by repeat (first | (with_reducible first | exact HB.out | apply below_alloc | apply pw_below_drewN | apply below_drew1 | refine below_set ?_ GE274.out) | exact HB.out)) hb); clear BK274; clear HB; have BK274 := n0_; have HB := n1_; clear n0_ n1_; (try clear hb); (try clear hb2); (try clear hk); (try clear hi); have hcz12_0 : w11.cell? ⟨gb274, 0, none⟩ = some (.slice A0_0 l0_0.length c0_0) := (blk_cell BK274.out 0).trans rfl; have hcz12_1 : w11.cell? ⟨gb274, 1, none⟩ = some (.slice A0_1 l0_1.length c0_1) := (blk_cell BK274.out 1).trans rfl; have hfz12_0 := blk_frozen BK274.out 0; have hfz12_1 := blk_frozen BK274.out 1) | ((with_reducible refine gate_callee (f := 10) rfl ?_); refine goesL_ (some 21) rfl rfl Try.func10 (by kernel_rfl) rfl #[.slice A0_0 l0_0.length c0_0, .int .i64 a1] rfl (by (try simp only [List.map_toArray, List.map_cons, List.map_nil]); first | done | rfl | (simp only [List.length_drop, List.length_take]; rfl)) ?_; (with_reducible refine (tensor_Make_fix_F.calls k _ _ l0_0 a1 t277 t280 t283 _ ?side1 ?side2 A5.out).mono ?_); (case side1 => repeat (first | exact (Kd.C_below HR0_0.out HB.out) | (with_reducible refine Kd.C_alloc ?_ _) | (with_reducible refine Kd.C_drewN ?_ _) | (with_reducible refine Kd.C_drew ?_))); (case side2 => exact HC0_0.out); rintro e w13 ⟨v278, v281, rfl, ho0, ho1, hb⟩; refine ⟨_, rfl, ?_⟩; have n0_ := Aside0.mk (Kd.R_lower ho0 (below_size (by repeat (first | (with_reducible first | exact HB.out | apply below_alloc | apply pw_below_drewN | apply below_drew1 | refine below_set ?_ GE274.out) | exact HB.out)))); have n1_ := Aside0.mk (Kd.R_lower ho1 (below_size (by repeat (first | (with_reducible first | exact HB.out | apply below_alloc | apply pw_below_drewN | apply below_drew1 | refine below_set ?_ GE274.out) | exact HB.out)))); have n2_ := Aside0.mk (blk_below (g := gb274) (o := .cells #[.slice A0_0 l0_0.length c0_0, .slice A0_1 l0_1.length c0_1] 26 (0, 0)) (by (with_reducible repeat (first | refine blk_drewN ?_ _ | refine blk_drew ?_ | refine blk_alloc ?_ _)); exact BK274.out) hb); have n3_ := Aside0.mk (below_step (by repeat (first | (with_reducible first | exact HB.out | apply below_alloc | apply pw_below_drewN | apply below_drew1 | refine below_set ?_ GE274.out) | exact HB.out)) hb); clear BK274; clear HB; have HO279 := n0_; have HO282 := n1_; have BK274 := n2_; have HB := n3_; clear n0_ n1_ n2_ n3_; (try clear hb); (try clear hb2); (try clear hk); (try clear hi); (try clear ho0); (try clear ho1)) | ((with_reducible refine gate_dst (N := 5) rfl ?_); (try (refine gate_guard (by rfl) ?_; dsimp only)); refine box_event ?hg (N := 5) ?hd (cs := #[.slice none 0 0, .slice none 0 0]) (t := 26) ?hr ?_; (case hd => rfl); (case hg => rfl); (case hr => first | (go_simp; done) | (go_simp; rfl)); intro gb284 hg w14 hbox hb; have n0_ := Aside0.mk (Kd.R_below (by (with_reducible repeat (first | apply Kd.R_alloc | apply Kd.R_drewN | apply Kd.R_drew)); exact HO279.out) hb); have n1_ := Aside0.mk (Kd.R_below (by (with_reducible repeat (first | apply Kd.R_alloc | apply Kd.R_drewN | apply Kd.R_drew)); exact HO282.out) hb); have n2_ := Aside0.mk (blk_below (g := gb274) (o := .cells #[.slice A0_0 l0_0.length c0_0, .slice A0_1 l0_1.length c0_1] 26 (0, 0)) (by (with_reducible repeat (first | refine blk_drewN ?_ _ | refine blk_drew ?_ | refine blk_alloc ?_ _)); exact BK274.out) hb); have n3_ := Aside0.mk (below_step (by repeat (first | (with_reducible first | exact HB.out | apply below_alloc | apply pw_below_drewN | apply below_drew1 | refine below_set ?_ GE274.out) | exact HB.out)) hb); have n4_ := Aside0.mk (hbox); have n5_ := Aside0.mk ((by rw [hg]; exact (below_size (by repeat (first | (with_reducible first | exact HB.out | apply below_alloc | apply pw_below_drewN | apply below_drew1 | refine below_set ?_ GE274.out) | exact HB.out))) : w.heap.size ≤ gb284)); have n6_ := Aside0.mk ((by rw [hg]; exact (below_size (by repeat (first | (with_reducible first | exact HB.out | apply below_alloc | apply pw_below_drewN | apply below_drew1 | refine below_set ?_ GE274.out) | exact HB.out))) : w.heap.size ≤ gb284)); have n7_ := Aside0.mk ((by rw [hg]; exact Nat.ne_of_lt (blk_lt (g := gb274) (o := .cells #[.slice A0_0 l0_0.length c0_0, .slice A0_1 l0_1.length c0_1] 26 (0, 0)) (by (with_reducible repeat (first | refine blk_drewN ?_ _ | refine blk_drew ?_ | refine blk_alloc ?_ _)); exact BK274.out)) : gb274 ≠ gb284)); have n8_ := Aside0.mk ((by rw [hg]; exact Nat.ne_of_gt (blk_lt (g := gb274) (o := .cells #[.slice A0_0 l0_0.length c0_0, .slice A0_1 l0_1.length c0_1] 26 (0, 0)) (by (with_reducible repeat (first | refine blk_drewN ?_ _ | refine blk_drew ?_ | refine blk_alloc ?_ _)); exact BK274.out)) : gb284 ≠ gb274)); clear HO279; clear HO282; clear BK274; clear HB; have HO279 := n0_; have HO282 := n1_; have BK274 := n2_; have HB := n3_; have BK284 := n4_; have GW284 := n5_; have GE284 := n6_; have NB274_284 := n7_; have NB284_274 := n8_; clear n0_ n1_ n2_ n3_ n4_ n5_ n6_ n7_ n8_; clear hb hbox hg; obtain ⟨Ao15, co15, eo15⟩ := Kd.R_slice HO279.out; subst eo15; have hnb16 := NB284_274.out; have hnc16 := NB274_284.out; have hcz17_0 : w14.cell? ⟨gb284, 0, none⟩ = some (.slice none 0 0) := (blk_cell BK284.out 0).trans rfl; have hcz17_1 : w14.cell? ⟨gb284, 1, none⟩ = some (.slice none 0 0) := (blk_cell BK284.out 1).trans rfl; have hfz17_0 := blk_frozen BK284.out 0; have hfz17_1 := blk_frozen BK284.out 1; obtain ⟨Ao18, co18, eo18⟩ := Kd.R_slice HO282.out; subst eo18; have hcz19_0 : w14.cell? ⟨gb274, 0, none⟩ = some (.slice A0_0 l0_0.length c0_0) := (blk_cell BK274.out 0).trans rfl; have hcz19_1 : w14.cell? ⟨gb274, 1, none⟩ = some (.slice A0_1 l0_1.length c0_1) := (blk_cell BK274.out 1).trans rfl; have hfz19_0 := blk_frozen BK274.out 0; have hfz19_1 := blk_frozen BK274.out 1) | ((with_reducible refine gate_callee (f := 11) rfl ?_); refine goesL_ (some 29) rfl rfl Try.func11 (by kernel_rfl) rfl #[.slice A0_0 l0_0.length c0_0, .slice A0_1 l0_1.length c0_1] rfl (by (try simp only [List.map_toArray, List.map_cons, List.map_nil]); first | done | rfl | (simp only [List.length_drop, List.length_take]; rfl)) ?_; (with_reducible refine (tensor_Of_fix_F.calls k _ _ l0_0 _ _ l0_1 t285 t288 t291 _ ?side1 ?side2 ?side3 ?side4 A6.out).mono ?_); (case side1 => exact Kd.C_below HR0_0.out (by repeat (first | (with_reducible first | exact HB.out | apply below_alloc | apply pw_below_drewN | apply below_drew1 | refine below_set ?_ GE274.out | refine below_set ?_ GE284.out) | exact HB.out))); (case side2 => exact HC0_0.out); (case side3 => exact Kd.C_below HR0_1.out (by repeat (first | (with_reducible first | exact HB.out | apply below_alloc | apply pw_below_drewN | apply below_drew1 | refine below_set ?_ GE274.out | refine below_set ?_ GE284.out) | exact HB.out))); (case side4 => exact HC0_1.out); rintro e w20 ⟨v286, v289, rfl, ho0, ho1, hb⟩; refine ⟨_, rfl, ?_⟩; have n0_ := Aside0.mk (Kd.R_elder' (by (with_reducible repeat (first | apply Kd.R_alloc | apply Kd.R_drewN | apply Kd.R_drew)); exact (Kd.R_mono (Kd.R_far (p := ⟨gb284, 1, none⟩) (Kd.R_far (p := ⟨gb284, 0, none⟩) (Kd.R_types HO279.out BK284.out (by decide)) (fun _ hk => hk.2) (.slice Ao15 t277.length co15)) (fun _ hk => hk.2) (.slice Ao18 t280.length co18)) (fun _ h_ => h_.1))) (Kd.R_base ho0) hb); have n1_ := Aside0.mk (Kd.R_elder' (by (with_reducible repeat (first | apply Kd.R_alloc | apply Kd.R_drewN | apply Kd.R_drew)); exact (Kd.R_mono (Kd.R_far (p := ⟨gb284, 1, none⟩) (Kd.R_far (p := ⟨gb284, 0, none⟩) (Kd.R_types HO282.out BK284.out (by decide)) (fun _ hk => hk.2) (.slice Ao15 t277.length co15)) (fun _ hk => hk.2) (.slice Ao18 t280.length co18)) (fun _ h_ => h_.1))) (Kd.R_base ho1) hb); have n2_ := Aside0.mk (Kd.R_lower (Kd.R_new' ho0 (Kd.R_lt (by (with_reducible repeat (first | apply Kd.R_alloc | apply Kd.R_drewN | apply Kd.R_drew)); exact (Kd.R_mono (Kd.R_far (p := ⟨gb284, 1, none⟩) (Kd.R_far (p := ⟨gb284, 0, none⟩) (Kd.R_types HO279.out BK284.out (by decide)) (fun _ hk => hk.2) (.slice Ao15 t277.length co15)) (fun _ hk => hk.2) (.slice Ao18 t280.length co18)) (fun _ h_ => h_.1))))) (below_size (by repeat (first | (with_reducible first | exact HB.out | apply below_alloc | apply pw_below_drewN | apply below_drew1 | refine below_set ?_ GE274.out | refine below_set ?_ GE284.out) | exact HB.out)))); have n3_ := Aside0.mk (Kd.R_lower (Kd.R_new' ho1 (Kd.R_lt (by (with_reducible repeat (first | apply Kd.R_alloc | apply Kd.R_drewN | apply Kd.R_drew)); exact (Kd.R_mono (Kd.R_far (p := ⟨gb284, 1, none⟩) (Kd.R_far (p := ⟨gb284, 0, none⟩) (Kd.R_types HO282.out BK284.out (by decide)) (fun _ hk => hk.2) (.slice Ao15 t277.length co15)) (fun _ hk => hk.2) (.slice Ao18 t280.length co18)) (fun _ h_ => h_.1))))) (below_size (by repeat (first | (with_reducible first | exact HB.out | apply below_alloc | apply pw_below_drewN | apply below_drew1 | refine below_set ?_ GE274.out | refine below_set ?_ GE284.out) | exact HB.out)))); have n4_ := Aside0.mk (blk_below (g := gb274) (o := .cells #[.slice A0_0 l0_0.length c0_0, .slice A0_1 l0_1.length c0_1] 26 (0, 0)) (by (with_reducible repeat (first | refine blk_drewN ?_ _ | refine blk_drew ?_ | refine blk_alloc ?_ _)); refine blk_far ?_ NB274_284.out _; (with_reducible repeat (first | refine blk_drewN ?_ _ | refine blk_drew ?_ | refine blk_alloc ?_ _)); refine blk_far ?_ NB274_284.out _; (with_reducible repeat (first | refine blk_drewN ?_ _ | refine blk_drew ?_ | refine blk_alloc ?_ _)); exact BK274.out) hb); have n5_ := Aside0.mk (blk_below (g := gb284) (o := .cells #[.slice Ao15 t277.length co15, .slice Ao18 t280.length co18] 26 (0, 0)) (by (with_reducible repeat (first | refine blk_drewN ?_ _ | refine blk_drew ?_ | refine blk_alloc ?_ _)); refine blk_put (cs := #[.slice Ao15 t277.length co15, .slice none 0 0]) ?_ 1 _ rfl; (with_reducible repeat (first | refine blk_drewN ?_ _ | refine blk_drew ?_ | refine blk_alloc ?_ _)); refine blk_put (cs := #[.slice none 0 0, .slice none 0 0]) ?_ 0 _ rfl; (with_reducible repeat (first | refine blk_drewN ?_ _ | refine blk_drew ?_ | refine blk_alloc ?_ _)); exact BK284.out) hb); have n6_ := Aside0.mk (below_step (by repeat (first | (with_reducible first | exact HB.out | apply below_alloc | apply pw_below_drewN | apply below_drew1 | refine below_set ?_ GE274.out | refine below_set ?_ GE284.out) | exact HB.out)) hb); clear HO279; clear HO282; clear BK274; clear BK284; clear HB; have HO279 := n0_; have HO282 := n1_; have HO287 := n2_; have HO290 := n3_; have BK274 := n4_; have BK284 := n5_; have HB := n6_; clear n0_ n1_ n2_ n3_ n4_ n5_ n6_; (try clear hb); (try clear hb2); (try clear hk); (try clear hi); (try clear ho0); (try clear ho1)) | ((with_reducible refine gate_dst (N := 7) rfl ?_); (try (refine gate_guard (by rfl) ?_; dsimp only)); refine box_event ?hg (N := 7) ?hd (cs := #[.slice none 0 0, .slice none 0 0]) (t := 26) ?hr ?_; (case hd => rfl); (case hg => rfl); (case hr => first | (go_simp; done) | (go_simp; rfl)); intro gb292 hg w21 hbox hb; have n0_ := Aside0.mk (Kd.R_below (by (with_reducible repeat (first | apply Kd.R_alloc | apply Kd.R_drewN | apply Kd.R_drew)); exact HO279.out) hb); have n1_ := Aside0.mk (Kd.R_below (by (with_reducible repeat (first | apply Kd.R_alloc | apply Kd.R_drewN | apply Kd.R_drew)); exact HO282.out) hb); have n2_ := Aside0.mk (Kd.R_below (by (with_reducible repeat (first | apply Kd.R_alloc | apply Kd.R_drewN | apply Kd.R_drew)); exact HO287.out) hb); have n3_ := Aside0.mk (Kd.R_below (by (with_reducible repeat (first | apply Kd.R_alloc | apply Kd.R_drewN | apply Kd.R_drew)); exact HO290.out) hb); have n4_ := Aside0.mk (blk_below (g := gb274) (o := .cells #[.slice A0_0 l0_0.length c0_0, .slice A0_1 l0_1.length c0_1] 26 (0, 0)) (by (with_reducible repeat (first | refine blk_drewN ?_ _ | refine blk_drew ?_ | refine blk_alloc ?_ _)); exact BK274.out) hb); have n5_ := Aside0.mk (blk_below (g := gb284) (o := .cells #[.slice Ao15 t277.length co15, .slice Ao18 t280.length co18] 26 (0, 0)) (by (with_reducible repeat (first | refine blk_drewN ?_ _ | refine blk_drew ?_ | refine blk_alloc ?_ _)); exact BK284.out) hb); have n6_ := Aside0.mk (below_step (by repeat (first | (with_reducible first | exact HB.out | apply below_alloc | apply pw_below_drewN | apply below_drew1 | refine below_set ?_ GE274.out | refine below_set ?_ GE284.out) | exact HB.out)) hb); have n7_ := Aside0.mk (hbox); have n8_ := Aside0.mk ((by rw [hg]; exact (below_size (by repeat (first | (with_reducible first | exact HB.out | apply below_alloc | apply pw_below_drewN | apply below_drew1 | refine below_set ?_ GE274.out | refine below_set ?_ GE284.out) | exact HB.out))) : w.heap.size ≤ gb292)); have n9_ := Aside0.mk ((by rw [hg]; exact (below_size (by repeat (first | (with_reducible first | exact HB.out | apply below_alloc | apply pw_below_drewN | apply below_drew1 | refine below_set ?_ GE274.out | refine below_set ?_ GE284.out) | exact HB.out))) : w.heap.size ≤ gb292)); have n10_ := Aside0.mk ((by rw [hg]; exact Nat.ne_of_lt (blk_lt (g := gb274) (o := .cells #[.slice A0_0 l0_0.length c0_0, .slice A0_1 l0_1.length c0_1] 26 (0, 0)) (by (with_reducible repeat (first | refine blk_drewN ?_ _ | refine blk_drew ?_ | refine blk_alloc ?_ _)); exact BK274.out)) : gb274 ≠ gb292)); have n11_ := Aside0.mk ((by rw [hg]; exact Nat.ne_of_gt (blk_lt (g := gb274) (o := .cells #[.slice A0_0 l0_0.length c0_0, .slice A0_1 l0_1.length c0_1] 26 (0, 0)) (by (with_reducible repeat (first | refine blk_drewN ?_ _ | refine blk_drew ?_ | refine blk_alloc ?_ _)); exact BK274.out)) : gb292 ≠ gb274)); have n12_ := Aside0.mk ((by rw [hg]; exact Nat.ne_of_lt (blk_lt (g := gb284) (o := .cells #[.slice Ao15 t277.length co15, .slice Ao18 t280.length co18] 26 (0, 0)) (by (with_reducible repeat (first | refine blk_drewN ?_ _ | refine blk_drew ?_ | refine blk_alloc ?_ _)); exact BK284.out)) : gb284 ≠ gb292)); have n13_ := Aside0.mk ((by rw [hg]; exact Nat.ne_of_gt (blk_lt (g := gb284) (o := .cells #[.slice Ao15 t277.length co15, .slice Ao18 t280.length co18] 26 (0, 0)) (by (with_reducible repeat (first | refine blk_drewN ?_ _ | refine blk_drew ?_ | refine blk_alloc ?_ _)); exact BK284.out)) : gb292 ≠ gb284)); clear HO279; clear HO282; clear HO287; clear HO290; clear BK274; clear BK284; clear HB; have HO279 := n0_; have HO282 := n1_; have HO287 := n2_; have HO290 := n3_; have BK274 := n4_; have BK284 := n5_; have HB := n6_; have BK292 := n7_; have GW292 := n8_; have GE292 := n9_; have NB274_292 := n10_; have NB292_274 := n11_; have NB284_292 := n12_; have NB292_284 := n13_; clear n0_ n1_ n2_ n3_ n4_ n5_ n6_ n7_ n8_ n9_ n10_ n11_ n12_ n13_; clear hb hbox hg; obtain ⟨Ao22, co22, eo22⟩ := Kd.R_slice HO287.out; subst eo22; have hnb23 := NB292_274.out; have hnc23 := NB274_292.out; have hnb24 := NB292_284.out; have hnc24 := NB284_292.out; have hcz25_0 : w21.cell? ⟨gb292, 0, none⟩ = some (.slice none 0 0) := (blk_cell BK292.out 0).trans rfl; have hcz25_1 : w21.cell? ⟨gb292, 1, none⟩ = some (.slice none 0 0) := (blk_cell BK292.out 1).trans rfl; have hfz25_0 := blk_frozen BK292.out 0; have hfz25_1 := blk_frozen BK292.out 1; obtain ⟨Ao26, co26, eo26⟩ := Kd.R_slice HO290.out; subst eo26; have hcz27_0 : w21.cell? ⟨gb274, 0, none⟩ = some (.slice A0_0 l0_0.length c0_0) := (blk_cell BK274.out 0).trans rfl; have hcz27_1 : w21.cell? ⟨gb274, 1, none⟩ = some (.slice A0_1 l0_1.length c0_1) := (blk_cell BK274.out 1).trans rfl; have hfz27_0 := blk_frozen BK274.out 0; have hfz27_1 := blk_frozen BK274.out 1) | ((with_reducible refine gate_callee (f := 12) rfl ?_); refine goesL_ (some 33) rfl rfl Try.func12 (by kernel_rfl) rfl #[.agg #[.slice A0_0 l0_0.length c0_0, .slice A0_1 l0_1.length c0_1]] rfl (by (try simp only [List.map_toArray, List.map_cons, List.map_nil]); first | done | rfl | (simp only [List.length_drop, List.length_take]; rfl)) ?_; (with_reducible refine (tensor_Grid_fix_F_Copy.calls _ _ l0_0 _ _ l0_1 t293 t296 _ ?side1 ?side2 ?side3 ?side4 A7.out).mono ?_); (case side1 => exact Kd.C_below HR0_0.out (by repeat (first | (with_reducible first | exact HB.out | apply below_alloc | apply pw_below_drewN | apply below_drew1 | refine below_set ?_ GE274.out | refine below_set ?_ GE284.out | refine below_set ?_ GE292.out) | exact HB.out))); (case side2 => exact HC0_0.out); (case side3 => exact Kd.C_below HR0_1.out (by repeat (first | (with_reducible first | exact HB.out | apply below_alloc | apply pw_below_drewN | apply below_drew1 | refine below_set ?_ GE274.out | refine below_set ?_ GE284.out | refine below_set ?_ GE292.out) | exact HB.out))); (case side4 => exact HC0_1.out); rintro e w28 ⟨v294, v297, rfl, ho0, ho1, hb⟩; refine ⟨_, rfl, ?_⟩; have n0_ := Aside0.mk (Kd.R_elder' (by (with_reducible repeat (first | apply Kd.R_alloc | apply Kd.R_drewN | apply Kd.R_drew)); exact (Kd.R_mono (Kd.R_far (p := ⟨gb292, 1, none⟩) (Kd.R_far (p := ⟨gb292, 0, none⟩) (Kd.R_types HO279.out BK292.out (by decide)) (fun _ hk => hk.2) (.slice Ao22 t285.length co22)) (fun _ hk => hk.2) (.slice Ao26 t288.length co26)) (fun _ h_ => h_.1))) (Kd.R_base ho0) hb); have n1_ := Aside0.mk (Kd.R_elder' (by (with_reducible repeat (first | apply Kd.R_alloc | apply Kd.R_drewN | apply Kd.R_drew)); exact (Kd.R_mono (Kd.R_far (p := ⟨gb292, 1, none⟩) (Kd.R_far (p := ⟨gb292, 0, none⟩) (Kd.R_types HO282.out BK292.out (by decide)) (fun _ hk => hk.2) (.slice Ao22 t285.length co22)) (fun _ hk => hk.2) (.slice Ao26 t288.length co26)) (fun _ h_ => h_.1))) (Kd.R_base ho1) hb); have n2_ := Aside0.mk (Kd.R_elder' (by (with_reducible repeat (first | apply Kd.R_alloc | apply Kd.R_drewN | apply Kd.R_drew)); exact (Kd.R_mono (Kd.R_far (p := ⟨gb292, 1, none⟩) (Kd.R_far (p := ⟨gb292, 0, none⟩) (Kd.R_types HO287.out BK292.out (by decide)) (fun _ hk => hk.2) (.slice Ao22 t285.length co22)) (fun _ hk => hk.2) (.slice Ao26 t288.length co26)) (fun _ h_ => h_.1))) (Kd.R_base ho0) hb); have n3_ := Aside0.mk (Kd.R_elder' (by (with_reducible repeat (first | apply Kd.R_alloc | apply Kd.R_drewN | apply Kd.R_drew)); exact (Kd.R_mono (Kd.R_far (p := ⟨gb292, 1, none⟩) (Kd.R_far (p := ⟨gb292, 0, none⟩) (Kd.R_types HO290.out BK292.out (by decide)) (fun _ hk => hk.2) (.slice Ao22 t285.length co22)) (fun _ hk => hk.2) (.slice Ao26 t288.length co26)) (fun _ h_ => h_.1))) (Kd.R_base ho1) hb); have n4_ := Aside0.mk (Kd.R_lower (Kd.R_new' (Kd.R_new' ho0 (Kd.R_lt (by (with_reducible repeat (first | apply Kd.R_alloc | apply Kd.R_drewN | apply Kd.R_drew)); exact (Kd.R_mono (Kd.R_far (p := ⟨gb292, 1, none⟩) (Kd.R_far (p := ⟨gb292, 0, none⟩) (Kd.R_types HO279.out BK292.out (by decide)) (fun _ hk => hk.2) (.slice Ao22 t285.length co22)) (fun _ hk => hk.2) (.slice Ao26 t288.length co26)) (fun _ h_ => h_.1))))) (Kd.R_lt (by (with_reducible repeat (first | apply Kd.R_alloc | apply Kd.R_drewN | apply Kd.R_drew)); exact (Kd.R_mono (Kd.R_far (p := ⟨gb292, 1, none⟩) (Kd.R_far (p := ⟨gb292, 0, none⟩) (Kd.R_types HO287.out BK292.out (by decide)) (fun _ hk => hk.2) (.slice Ao22 t285.length co22)) (fun _ hk => hk.2) (.slice Ao26 t288.length co26)) (fun _ h_ => h_.1))))) (below_size (by repeat (first | (with_reducible first | exact HB.out | apply below_alloc | apply pw_below_drewN | apply below_drew1 | refine below_set ?_ GE274.out | refine below_set ?_ GE284.out | refine below_set ?_ GE292.out) | exact HB.out)))); have n5_ := Aside0.mk (Kd.R_lower (Kd.R_new' (Kd.R_new' ho1 (Kd.R_lt (by (with_reducible repeat (first | apply Kd.R_alloc | apply Kd.R_drewN | apply Kd.R_drew)); exact (Kd.R_mono (Kd.R_far (p := ⟨gb292, 1, none⟩) (Kd.R_far (p := ⟨gb292, 0, none⟩) (Kd.R_types HO282.out BK292.out (by decide)) (fun _ hk => hk.2) (.slice Ao22 t285.length co22)) (fun _ hk => hk.2) (.slice Ao26 t288.length co26)) (fun _ h_ => h_.1))))) (Kd.R_lt (by (with_reducible repeat (first | apply Kd.R_alloc | apply Kd.R_drewN | apply Kd.R_drew)); exact (Kd.R_mono (Kd.R_far (p := ⟨gb292, 1, none⟩) (Kd.R_far (p := ⟨gb292, 0, none⟩) (Kd.R_types HO290.out BK292.out (by decide)) (fun _ hk => hk.2) (.slice Ao22 t285.length co22)) (fun _ hk => hk.2) (.slice Ao26 t288.length co26)) (fun _ h_ => h_.1))))) (below_size (by repeat (first | (with_reducible first | exact HB.out | apply below_alloc | apply pw_below_drewN | apply below_drew1 | refine below_set ?_ GE274.out | refine below_set ?_ GE284.out | refine below_set ?_ GE292.out) | exact HB.out)))); have n6_ := Aside0.mk (blk_below (g := gb274) (o := .cells #[.slice A0_0 l0_0.length c0_0, .slice A0_1 l0_1.length c0_1] 26 (0, 0)) (by (with_reducible repeat (first | refine blk_drewN ?_ _ | refine blk_drew ?_ | refine blk_alloc ?_ _)); refine blk_far ?_ NB274_292.out _; (with_reducible repeat (first | refine blk_drewN ?_ _ | refine blk_drew ?_ | refine blk_alloc ?_ _)); refine blk_far ?_ NB274_292.out _; (with_reducible repeat (first | refine blk_drewN ?_ _ | refine blk_drew ?_ | refine blk_alloc ?_ _)); exact BK274.out) hb); have n7_ := Aside0.mk (blk_below (g := gb284) (o := .cells #[.slice Ao15 t277.length co15, .slice Ao18 t280.length co18] 26 (0, 0)) (by (with_reducible repeat (first | refine blk_drewN ?_ _ | refine blk_drew ?_ | refine blk_alloc ?_ _)); refine blk_far ?_ NB284_292.out _; (with_reducible repeat (first | refine blk_drewN ?_ _ | refine blk_drew ?_ | refine blk_alloc ?_ _)); refine blk_far ?_ NB284_292.out _; (with_reducible repeat (first | refine blk_drewN ?_ _ | refine blk_drew ?_ | refine blk_alloc ?_ _)); exact BK284.out) hb); have n8_ := Aside0.mk (blk_below (g := gb292) (o := .cells #[.slice Ao22 t285.length co22, .slice Ao26 t288.length co26] 26 (0, 0)) (by (with_reducible repeat (first | refine blk_drewN ?_ _ | refine blk_drew ?_ | refine blk_alloc ?_ _)); refine blk_put (cs := #[.slice Ao22 t285.length co22, .slice none 0 0]) ?_ 1 _ rfl; (with_reducible repeat (first | refine blk_drewN ?_ _ | refine blk_drew ?_ | refine blk_alloc ?_ _)); refine blk_put (cs := #[.slice none 0 0, .slice none 0 0]) ?_ 0 _ rfl; (with_reducible repeat (first | refine blk_drewN ?_ _ | refine blk_drew ?_ | refine blk_alloc ?_ _)); exact BK292.out) hb); have n9_ := Aside0.mk (below_step (by repeat (first | (with_reducible first | exact HB.out | apply below_alloc | apply pw_below_drewN | apply below_drew1 | refine below_set ?_ GE274.out | refine below_set ?_ GE284.out | refine below_set ?_ GE292.out) | exact HB.out)) hb); clear HO279; clear HO282; clear HO287; clear HO290; clear BK274; clear BK284; clear BK292; clear HB; have HO279 := n0_; have HO282 := n1_; have HO287 := n2_; have HO290 := n3_; have HO295 := n4_; have HO298 := n5_; have BK274 := n6_; have BK284 := n7_; have BK292 := n8_; have HB := n9_; clear n0_ n1_ n2_ n3_ n4_ n5_ n6_ n7_ n8_ n9_; (try clear hb); (try clear hb2); (try clear hk); (try clear hi); (try clear ho0); (try clear ho1)) | ((with_reducible refine gate_dst (N := 9) rfl ?_); (try (refine gate_guard (by rfl) ?_; dsimp only)); refine box_event ?hg (N := 9) ?hd (cs := #[.slice none 0 0, .slice none 0 0]) (t := 26) ?hr ?_; (case hd => rfl); (case hg => rfl); (case hr => first | (go_simp; done) | (go_simp; rfl)); intro gb299 hg w29 hbox hb; have n0_ := Aside0.mk (Kd.R_below (by (with_reducible repeat (first | apply Kd.R_alloc | apply Kd.R_drewN | apply Kd.R_drew)); exact HO279.out) hb); have n1_ := Aside0.mk (Kd.R_below (by (with_reducible repeat (first | apply Kd.R_alloc | apply Kd.R_drewN | apply Kd.R_drew)); exact HO282.out) hb); have n2_ := Aside0.mk (Kd.R_below (by (with_reducible repeat (first | apply Kd.R_alloc | apply Kd.R_drewN | apply Kd.R_drew)); exact HO287.out) hb); have n3_ := Aside0.mk (Kd.R_below (by (with_reducible repeat (first | apply Kd.R_alloc | apply Kd.R_drewN | apply Kd.R_drew)); exact HO290.out) hb); have n4_ := Aside0.mk (Kd.R_below (by (with_reducible repeat (first | apply Kd.R_alloc | apply Kd.R_drewN | apply Kd.R_drew)); exact HO295.out) hb); have n5_ := Aside0.mk (Kd.R_below (by (with_reducible repeat (first | apply Kd.R_alloc | apply Kd.R_drewN | apply Kd.R_drew)); exact HO298.out) hb); have n6_ := Aside0.mk (blk_below (g := gb274) (o := .cells #[.slice A0_0 l0_0.length c0_0, .slice A0_1 l0_1.length c0_1] 26 (0, 0)) (by (with_reducible repeat (first | refine blk_drewN ?_ _ | refine blk_drew ?_ | refine blk_alloc ?_ _)); exact BK274.out) hb); have n7_ := Aside0.mk (blk_below (g := gb284) (o := .cells #[.slice Ao15 t277.length co15, .slice Ao18 t280.length co18] 26 (0, 0)) (by (with_reducible repeat (first | refine blk_drewN ?_ _ | refine blk_drew ?_ | refine blk_alloc ?_ _)); exact BK284.out) hb); have n8_ := Aside0.mk (blk_below (g := gb292) (o := .cells #[.slice Ao22 t285.length co22, .slice Ao26 t288.length co26] 26 (0, 0)) (by (with_reducible repeat (first | refine blk_drewN ?_ _ | refine blk_drew ?_ | refine blk_alloc ?_ _)); exact BK292.out) hb); have n9_ := Aside0.mk (below_step (by repeat (first | (with_reducible first | exact HB.out | apply below_alloc | apply pw_below_drewN | apply below_drew1 | refine below_set ?_ GE274.out | refine below_set ?_ GE284.out | refine below_set ?_ GE292.out) | exact HB.out)) hb); have n10_ := Aside0.mk (hbox); have n11_ := Aside0.mk ((by rw [hg]; exact (below_size (by repeat (first | (with_reducible first | exact HB.out | apply below_alloc | apply pw_below_drewN | apply below_drew1 | refine below_set ?_ GE274.out | refine below_set ?_ GE284.out | refine below_set ?_ GE292.out) | exact HB.out))) : w.heap.size ≤ gb299)); have n12_ := Aside0.mk ((by rw [hg]; exact (below_size (by repeat (first | (with_reducible first | exact HB.out | apply below_alloc | apply pw_below_drewN | apply below_drew1 | refine below_set ?_ GE274.out | refine below_set ?_ GE284.out | refine below_set ?_ GE292.out) | exact HB.out))) : w.heap.size ≤ gb299)); have n13_ := Aside0.mk ((by rw [hg]; exact Nat.ne_of_lt (blk_lt (g := gb274) (o := .cells #[.slice A0_0 l0_0.length c0_0, .slice A0_1 l0_1.length c0_1] 26 (0, 0)) (by (with_reducible repeat (first | refine blk_drewN ?_ _ | refine blk_drew ?_ | refine blk_alloc ?_ _)); exact BK274.out)) : gb274 ≠ gb299)); have n14_ := Aside0.mk ((by rw [hg]; exact Nat.ne_of_gt (blk_lt (g := gb274) (o := .cells #[.slice A0_0 l0_0.length c0_0, .slice A0_1 l0_1.length c0_1] 26 (0, 0)) (by (with_reducible repeat (first | refine blk_drewN ?_ _ | refine blk_drew ?_ | refine blk_alloc ?_ _)); exact BK274.out)) : gb299 ≠ gb274)); have n15_ := Aside0.mk ((by rw [hg]; exact Nat.ne_of_lt (blk_lt (g := gb284) (o := .cells #[.slice Ao15 t277.length co15, .slice Ao18 t280.length co18] 26 (0, 0)) (by (with_reducible repeat (first | refine blk_drewN ?_ _ | refine blk_drew ?_ | refine blk_alloc ?_ _)); exact BK284.out)) : gb284 ≠ gb299)); have n16_ := Aside0.mk ((by rw [hg]; exact Nat.ne_of_gt (blk_lt (g := gb284) (o := .cells #[.slice Ao15 t277.length co15, .slice Ao18 t280.length co18] 26 (0, 0)) (by (with_reducible repeat (first | refine blk_drewN ?_ _ | refine blk_drew ?_ | refine blk_alloc ?_ _)); exact BK284.out)) : gb299 ≠ gb284)); have n17_ := Aside0.mk ((by rw [hg]; exact Nat.ne_of_lt (blk_lt (g := gb292) (o := .cells #[.slice Ao22 t285.length co22, .slice Ao26 t288.length co26] 26 (0, 0)) (by (with_reducible repeat (first | refine blk_drewN ?_ _ | refine blk_drew ?_ | refine blk_alloc ?_ _)); exact BK292.out)) : gb292 ≠ gb299)); have n18_ := Aside0.mk ((by rw [hg]; exact Nat.ne_of_gt (blk_lt (g := gb292) (o := .cells #[.slice Ao22 t285.length co22, .slice Ao26 t288.length co26] 26 (0, 0)) (by (with_reducible repeat (first | refine blk_drewN ?_ _ | refine blk_drew ?_ | refine blk_alloc ?_ _)); exact BK292.out)) : gb299 ≠ gb292)); clear HO279; clear HO282; clear HO287; clear HO290; clear HO295; clear HO298; clear BK274; clear BK284; clear BK292; clear HB; have HO279 := n0_; have HO282 := n1_; have HO287 := n2_; have HO290 := n3_; have HO295 := n4_; have HO298 := n5_; have BK274 := n6_; have BK284 := n7_; have BK292 := n8_; have HB := n9_; have BK299 := n10_; have GW299 := n11_; have GE299 := n12_; have NB274_299 := n13_; have NB299_274 := n14_; have NB284_299 := n15_; have NB299_284 := n16_; have NB292_299 := n17_; have NB299_292 := n18_; clear n0_ n1_ n2_ n3_ n4_ n5_ n6_ n7_ n8_ n9_ n10_ n11_ n12_ n13_ n14_ n15_ n16_ n17_ n18_; clear hb hbox hg; obtain ⟨Ao30, co30, eo30⟩ := Kd.R_slice HO295.out; subst eo30; have hnb31 := NB299_274.out; have hnc31 := NB274_299.out; have hnb32 := NB299_284.out; have hnc32 := NB284_299.out; have hnb33 := NB299_292.out; have hnc33 := NB292_299.out; have hcz34_0 : w29.cell? ⟨gb299, 0, none⟩ = some (.slice none 0 0) := (blk_cell BK299.out 0).trans rfl; have hcz34_1 : w29.cell? ⟨gb299, 1, none⟩ = some (.slice none 0 0) := (blk_cell BK299.out 1).trans rfl; have hfz34_0 := blk_frozen BK299.out 0; have hfz34_1 := blk_frozen BK299.out 1; obtain ⟨Ao35, co35, eo35⟩ := Kd.R_slice HO298.out; subst eo35))
  (try simp only [Act.put, List.setIfInBounds_toArray, List.set_cons_zero, List.set_cons_succ])
  go_cut [44] (fun v44 wc => ∃ (kq : Nat) (x44_7 : Bool), v44 = .bool x44_7 ∧ Aside0 (athanorlaw04_TensorMakes.j0 kq a1 t283 t291 x44_7 l0_0 l0_1 t277 t280 t285 t288 t293 t296 = some r) ∧ Aside0 (kq ≤ k) ∧ Aside0 (Kd.R (Kd.int .i64) 3 wc w.heap.size (fun k_ => some k_ ≠ ((.slice Ao22 t285.length co22) : Value).ownBlock ∧ some k_ ≠ ((.slice Ao30 t293.length co30) : Value).ownBlock) (.slice Ao15 t277.length co15) t277) ∧ Aside0 (Kd.R (Kd.int .i64) 27 wc w.heap.size (fun k_ => some k_ ≠ ((.slice Ao26 t288.length co26) : Value).ownBlock ∧ some k_ ≠ ((.slice Ao35 t296.length co35) : Value).ownBlock) (.slice Ao18 t280.length co18) t280) ∧ Aside0 (Kd.R (Kd.int .i64) 3 wc w.heap.size (fun k_ => some k_ ≠ ((.slice Ao15 t277.length co15) : Value).ownBlock ∧ some k_ ≠ ((.slice Ao30 t293.length co30) : Value).ownBlock) (.slice Ao22 t285.length co22) t285) ∧ Aside0 (Kd.R (Kd.int .i64) 27 wc w.heap.size (fun k_ => some k_ ≠ ((.slice Ao18 t280.length co18) : Value).ownBlock ∧ some k_ ≠ ((.slice Ao35 t296.length co35) : Value).ownBlock) (.slice Ao26 t288.length co26) t288) ∧ Aside0 (Kd.R (Kd.int .i64) 3 wc w.heap.size (fun k_ => some k_ ≠ ((.slice Ao15 t277.length co15) : Value).ownBlock ∧ some k_ ≠ ((.slice Ao22 t285.length co22) : Value).ownBlock) (.slice Ao30 t293.length co30) t293) ∧ Aside0 (Kd.R (Kd.int .i64) 27 wc w.heap.size (fun k_ => some k_ ≠ ((.slice Ao18 t280.length co18) : Value).ownBlock ∧ some k_ ≠ ((.slice Ao26 t288.length co26) : Value).ownBlock) (.slice Ao35 t296.length co35) t296) ∧ Aside0 (wc.heap[gb274]? = some (.cells #[(.slice A0_0 l0_0.length c0_0), (.slice A0_1 l0_1.length c0_1)] 26 (0, 0))) ∧ Aside0 (wc.heap[gb284]? = some (.cells #[(.slice Ao15 t277.length co15), (.slice Ao18 t280.length co18)] 26 (0, 0))) ∧ Aside0 (wc.heap[gb292]? = some (.cells #[(.slice Ao22 t285.length co22), (.slice Ao26 t288.length co26)] 26 (0, 0))) ∧ Aside0 (wc.heap[gb299]? = some (.cells #[(.slice Ao30 t293.length co30), (.slice Ao35 t296.length co35)] 26 (0, 0))) ∧ Aside0 (Below w.heap.size w wc))
  case first =>
   have H := HC8.out
   clear HC8
   replace H := Option.bind_eq_some_iff.mp H
   obtain ⟨t300, A360, H⟩ := H
   replace H : ((athanorlaw04_right.f k l0_0 l0_1).bind fun t301 => (if (t300 != t301) = true then (athanorlaw04_TensorMakes.j0 k a1 t283 t291 true l0_0 l0_1 t277 t280 t285 t288 t293 t296) else ((tensor_Equal_fix_F.f k t293 t296 l0_0 l0_1).bind fun t302 => (athanorlaw04_TensorMakes.j0 k a1 t283 t291 (!t302) l0_0 l0_1 t277 t280 t285 t288 t293 t296)))) = some r := H
   have A36 := Aside0.mk A360
   clear A360
   replace H := Option.bind_eq_some_iff.mp H
   obtain ⟨t301, A370, H⟩ := H
   replace H : (if (t300 != t301) = true then (athanorlaw04_TensorMakes.j0 k a1 t283 t291 true l0_0 l0_1 t277 t280 t285 t288 t293 t296) else ((tensor_Equal_fix_F.f k t293 t296 l0_0 l0_1).bind fun t302 => (athanorlaw04_TensorMakes.j0 k a1 t283 t291 (!t302) l0_0 l0_1 t277 t280 t285 t288 t293 t296))) = some r := H
   have A37 := Aside0.mk A370
   clear A370
   by_cases c38 : (t300 != t301) = true
   ·rw [if_pos c38] at H
    have c38b0 : (t300 != t301) = true := c38
    (try (have c38b1 : decide (t300 = t301) = false := by simpa using c38))
    (try (have c38b2 : (t300 == t301) = false := by simpa using c38))
    (try (have c38b3 : ¬ (t300 = t301) := by simpa using c38))
    clear c38
    (first | rw [c38b0] | (simp only [i64_w, i32_w]; rw [c38b0]) | skip)
    as_aux_lemma =>
     have H' := Aside0.mk H
     clear H
     try go_wp2
     have n0_ : Aside0 (Kd.R (Kd.int .i64) 3 ((w29.setCell ⟨gb299, 0, none⟩ (.slice Ao30 t293.length co30)).setCell ⟨gb299, 1, none⟩ (.slice Ao35 t296.length co35)) w.heap.size (fun k_ => some k_ ≠ (.slice Ao22 t285.length co22 : Value).ownBlock ∧ some k_ ≠ (.slice Ao30 t293.length co30 : Value).ownBlock) (.slice Ao15 t277.length co15) t277) := ⟨by (with_reducible repeat (first | apply Kd.R_alloc | apply Kd.R_drewN | apply Kd.R_drew)); exact Kd.R_mono (Kd.R_far (p := ⟨gb299, 1, none⟩) (Kd.R_far (p := ⟨gb299, 0, none⟩) (Kd.R_types HO279.out BK299.out (by decide)) (fun _ hk => hk.2) (.slice Ao30 t293.length co30)) (fun _ hk => hk.2) (.slice Ao35 t296.length co35)) (fun _ hk => ⟨hk.1.1.2, hk.1.2⟩)⟩
     have n1_ : Aside0 (Kd.R (Kd.int .i64) 27 ((w29.setCell ⟨gb299, 0, none⟩ (.slice Ao30 t293.length co30)).setCell ⟨gb299, 1, none⟩ (.slice Ao35 t296.length co35)) w.heap.size (fun k_ => some k_ ≠ (.slice Ao26 t288.length co26 : Value).ownBlock ∧ some k_ ≠ (.slice Ao35 t296.length co35 : Value).ownBlock) (.slice Ao18 t280.length co18) t280) := ⟨by (with_reducible repeat (first | apply Kd.R_alloc | apply Kd.R_drewN | apply Kd.R_drew)); exact Kd.R_mono (Kd.R_far (p := ⟨gb299, 1, none⟩) (Kd.R_far (p := ⟨gb299, 0, none⟩) (Kd.R_types HO282.out BK299.out (by decide)) (fun _ hk => hk.2) (.slice Ao30 t293.length co30)) (fun _ hk => hk.2) (.slice Ao35 t296.length co35)) (fun _ hk => ⟨hk.1.1.2, hk.1.2⟩)⟩
     have n2_ : Aside0 (Kd.R (Kd.int .i64) 3 ((w29.setCell ⟨gb299, 0, none⟩ (.slice Ao30 t293.length co30)).setCell ⟨gb299, 1, none⟩ (.slice Ao35 t296.length co35)) w.heap.size (fun k_ => some k_ ≠ (.slice Ao15 t277.length co15 : Value).ownBlock ∧ some k_ ≠ (.slice Ao30 t293.length co30 : Value).ownBlock) (.slice Ao22 t285.length co22) t285) := ⟨by (with_reducible repeat (first | apply Kd.R_alloc | apply Kd.R_drewN | apply Kd.R_drew)); exact Kd.R_mono (Kd.R_far (p := ⟨gb299, 1, none⟩) (Kd.R_far (p := ⟨gb299, 0, none⟩) (Kd.R_types HO287.out BK299.out (by decide)) (fun _ hk => hk.2) (.slice Ao30 t293.length co30)) (fun _ hk => hk.2) (.slice Ao35 t296.length co35)) (fun _ hk => ⟨hk.1.1.2, hk.1.2⟩)⟩
     have n3_ : Aside0 (Kd.R (Kd.int .i64) 27 ((w29.setCell ⟨gb299, 0, none⟩ (.slice Ao30 t293.length co30)).setCell ⟨gb299, 1, none⟩ (.slice Ao35 t296.length co35)) w.heap.size (fun k_ => some k_ ≠ (.slice Ao18 t280.length co18 : Value).ownBlock ∧ some k_ ≠ (.slice Ao35 t296.length co35 : Value).ownBlock) (.slice Ao26 t288.length co26) t288) := ⟨by (with_reducible repeat (first | apply Kd.R_alloc | apply Kd.R_drewN | apply Kd.R_drew)); exact Kd.R_mono (Kd.R_far (p := ⟨gb299, 1, none⟩) (Kd.R_far (p := ⟨gb299, 0, none⟩) (Kd.R_types HO290.out BK299.out (by decide)) (fun _ hk => hk.2) (.slice Ao30 t293.length co30)) (fun _ hk => hk.2) (.slice Ao35 t296.length co35)) (fun _ hk => ⟨hk.1.1.2, hk.1.2⟩)⟩
     have n4_ : Aside0 (Kd.R (Kd.int .i64) 3 ((w29.setCell ⟨gb299, 0, none⟩ (.slice Ao30 t293.length co30)).setCell ⟨gb299, 1, none⟩ (.slice Ao35 t296.length co35)) w.heap.size (fun k_ => some k_ ≠ (.slice Ao15 t277.length co15 : Value).ownBlock ∧ some k_ ≠ (.slice Ao22 t285.length co22 : Value).ownBlock) (.slice Ao30 t293.length co30) t293) := ⟨by (with_reducible repeat (first | apply Kd.R_alloc | apply Kd.R_drewN | apply Kd.R_drew)); exact Kd.R_mono (Kd.R_far (p := ⟨gb299, 1, none⟩) (Kd.R_far (p := ⟨gb299, 0, none⟩) (Kd.R_types HO295.out BK299.out (by decide)) (fun _ hk => hk.2) (.slice Ao30 t293.length co30)) (fun _ hk => hk.2) (.slice Ao35 t296.length co35)) (fun _ hk => ⟨hk.1.1.2, hk.1.2⟩)⟩
     have n5_ : Aside0 (Kd.R (Kd.int .i64) 27 ((w29.setCell ⟨gb299, 0, none⟩ (.slice Ao30 t293.length co30)).setCell ⟨gb299, 1, none⟩ (.slice Ao35 t296.length co35)) w.heap.size (fun k_ => some k_ ≠ (.slice Ao18 t280.length co18 : Value).ownBlock ∧ some k_ ≠ (.slice Ao26 t288.length co26 : Value).ownBlock) (.slice Ao35 t296.length co35) t296) := ⟨by (with_reducible repeat (first | apply Kd.R_alloc | apply Kd.R_drewN | apply Kd.R_drew)); exact Kd.R_mono (Kd.R_far (p := ⟨gb299, 1, none⟩) (Kd.R_far (p := ⟨gb299, 0, none⟩) (Kd.R_types HO298.out BK299.out (by decide)) (fun _ hk => hk.2) (.slice Ao30 t293.length co30)) (fun _ hk => hk.2) (.slice Ao35 t296.length co35)) (fun _ hk => ⟨hk.1.1.2, hk.1.2⟩)⟩
     have n6_ : Aside0 (((w29.setCell ⟨gb299, 0, none⟩ (.slice Ao30 t293.length co30)).setCell ⟨gb299, 1, none⟩ (.slice Ao35 t296.length co35)).heap[gb274]? = some (.cells #[.slice A0_0 l0_0.length c0_0, .slice A0_1 l0_1.length c0_1] 26 (0, 0))) := ⟨by (with_reducible repeat (first | refine blk_drewN ?_ _ | refine blk_drew ?_ | refine blk_alloc ?_ _)); refine blk_far ?_ NB274_299.out _; (with_reducible repeat (first | refine blk_drewN ?_ _ | refine blk_drew ?_ | refine blk_alloc ?_ _)); refine blk_far ?_ NB274_299.out _; (with_reducible repeat (first | refine blk_drewN ?_ _ | refine blk_drew ?_ | refine blk_alloc ?_ _)); exact BK274.out⟩
     have n7_ : Aside0 (((w29.setCell ⟨gb299, 0, none⟩ (.slice Ao30 t293.length co30)).setCell ⟨gb299, 1, none⟩ (.slice Ao35 t296.length co35)).heap[gb284]? = some (.cells #[.slice Ao15 t277.length co15, .slice Ao18 t280.length co18] 26 (0, 0))) := ⟨by (with_reducible repeat (first | refine blk_drewN ?_ _ | refine blk_drew ?_ | refine blk_alloc ?_ _)); refine blk_far ?_ NB284_299.out _; (with_reducible repeat (first | refine blk_drewN ?_ _ | refine blk_drew ?_ | refine blk_alloc ?_ _)); refine blk_far ?_ NB284_299.out _; (with_reducible repeat (first | refine blk_drewN ?_ _ | refine blk_drew ?_ | refine blk_alloc ?_ _)); exact BK284.out⟩
     have n8_ : Aside0 (((w29.setCell ⟨gb299, 0, none⟩ (.slice Ao30 t293.length co30)).setCell ⟨gb299, 1, none⟩ (.slice Ao35 t296.length co35)).heap[gb292]? = some (.cells #[.slice Ao22 t285.length co22, .slice Ao26 t288.length co26] 26 (0, 0))) := ⟨by (with_reducible repeat (first | refine blk_drewN ?_ _ | refine blk_drew ?_ | refine blk_alloc ?_ _)); refine blk_far ?_ NB292_299.out _; (with_reducible repeat (first | refine blk_drewN ?_ _ | refine blk_drew ?_ | refine blk_alloc ?_ _)); refine blk_far ?_ NB292_299.out _; (with_reducible repeat (first | refine blk_drewN ?_ _ | refine blk_drew ?_ | refine blk_alloc ?_ _)); exact BK292.out⟩
     have n9_ : Aside0 (((w29.setCell ⟨gb299, 0, none⟩ (.slice Ao30 t293.length co30)).setCell ⟨gb299, 1, none⟩ (.slice Ao35 t296.length co35)).heap[gb299]? = some (.cells #[.slice Ao30 t293.length co30, .slice Ao35 t296.length co35] 26 (0, 0))) := ⟨by (with_reducible repeat (first | refine blk_drewN ?_ _ | refine blk_drew ?_ | refine blk_alloc ?_ _)); refine blk_put (cs := #[.slice Ao30 t293.length co30, .slice none 0 0]) ?_ 1 _ rfl; (with_reducible repeat (first | refine blk_drewN ?_ _ | refine blk_drew ?_ | refine blk_alloc ?_ _)); refine blk_put (cs := #[.slice none 0 0, .slice none 0 0]) ?_ 0 _ rfl; (with_reducible repeat (first | refine blk_drewN ?_ _ | refine blk_drew ?_ | refine blk_alloc ?_ _)); exact BK299.out⟩
     have n10_ : Aside0 (Below w.heap.size w ((w29.setCell ⟨gb299, 0, none⟩ (.slice Ao30 t293.length co30)).setCell ⟨gb299, 1, none⟩ (.slice Ao35 t296.length co35))) := ⟨by repeat (first | (with_reducible first | exact HB.out | apply below_alloc | apply pw_below_drewN | apply below_drew1 | refine below_set ?_ GE274.out | refine below_set ?_ GE284.out | refine below_set ?_ GE292.out | refine below_set ?_ GE299.out) | exact HB.out)⟩
     (try clear HO279)
     (try clear HO282)
     (try clear HO287)
     (try clear HO290)
     (try clear HO295)
     (try clear HO298)
     (try clear BK274)
     (try clear BK284)
     (try clear BK292)
     (try clear BK299)
     (try clear HB)
     generalize ((w29.setCell ⟨gb299, 0, none⟩ (.slice Ao30 t293.length co30)).setCell ⟨gb299, 1, none⟩ (.slice Ao35 t296.length co35)) = w39 at n0_ n1_ n2_ n3_ n4_ n5_ n6_ n7_ n8_ n9_ n10_ ⊢
     have HO279 := n0_
     have HO282 := n1_
     have HO287 := n2_
     have HO290 := n3_
     have HO295 := n4_
     have HO298 := n5_
     have BK274 := n6_
     have BK284 := n7_
     have BK292 := n8_
     have BK299 := n9_
     have HB := n10_
     clear n0_ n1_ n2_ n3_ n4_ n5_ n6_ n7_ n8_ n9_ n10_
     have n0_ := Aside0.mk (Kd.R_drew HO279.out)
     have n1_ := Aside0.mk (Kd.R_drew HO282.out)
     have n2_ := Aside0.mk (Kd.R_drew HO287.out)
     have n3_ := Aside0.mk (Kd.R_drew HO290.out)
     have n4_ := Aside0.mk (Kd.R_drew HO295.out)
     have n5_ := Aside0.mk (Kd.R_drew HO298.out)
     have n6_ := Aside0.mk (blk_drew BK274.out)
     have n7_ := Aside0.mk (blk_drew BK284.out)
     have n8_ := Aside0.mk (blk_drew BK292.out)
     have n9_ := Aside0.mk (blk_drew BK299.out)
     have n10_ := Aside0.mk (below_drew1 HB.out)
     clear HO279
     clear HO282
     clear HO287
     clear HO290
     clear HO295
     clear HO298
     clear BK274
     clear BK284
     clear BK292
     clear BK299
     clear HB
     have HO279 := n0_
     have HO282 := n1_
     have HO287 := n2_
     have HO290 := n3_
     have HO295 := n4_
     have HO298 := n5_
     have BK274 := n6_
     have BK284 := n7_
     have BK292 := n8_
     have BK299 := n9_
     have HB := n10_
     clear n0_ n1_ n2_ n3_ n4_ n5_ n6_ n7_ n8_ n9_ n10_
     refine start_ (n := 11) (S := fun w' => w'.cell? ⟨gb274, 0, none⟩ = some (.slice A0_0 l0_0.length c0_0) ∧ w'.cell? ⟨gb274, 1, none⟩ = some (.slice A0_1 l0_1.length c0_1)) (ds := []) #[false, false, false, false, false, false, false, false, false, false, false] (by kernel_rfl) rfl rfl ⟨(blk_cell BK274.out 0).trans rfl, (blk_cell BK274.out 1).trans rfl⟩ (fun hHeld => ?_); refine with_tabW athanorlaw04_TensorMakes.tab6 athanorlaw04_TensorMakes.bits6 (fun HT_ HW_ => ?_)
     generalize w39.drew = w40 at HO279 HO282 HO287 HO290 HO295 HO298 BK274 BK284 BK292 BK299 HB hHeld ⊢
     refine take_ (i := 0) (N := some 34) (v := ?_) (a' := ?_) #[true, false, false, false, false, false, false, false, false, false, false] rfl rfl (take_ofW HT_.out HW_.out (by kernel_rfl)) (fun _ _ _ h => h) (Or.inl ⟨by rfl, ?_⟩) hHeld ?_ ?_
     rotate_left
     ·rintro w' ⟨s0, s1⟩
      go_simp
      with_reducible rfl
     rotate_left
     ·simp only [Act.put, List.setIfInBounds_toArray, List.set_cons_zero, List.set_cons_succ, i64_w, i32_w]
      rfl
     refine take_ (i := 2) (N := some 36) (v := ?_) (a' := ?_) #[true, false, true, false, false, false, false, false, false, false, false] rfl rfl (take_ofW HT_.out HW_.out (by kernel_rfl)) (fun _ _ _ h => h) (Or.inl ⟨by rfl, ?_⟩) hHeld ?_ ?_
     rotate_left
     ·rintro w' ⟨s0, s1⟩
      go_simp
      with_reducible rfl
     rotate_left
     ·simp only [Act.put, List.setIfInBounds_toArray, List.set_cons_zero, List.set_cons_succ, i64_w, i32_w]
      rfl
     refine one_ (i := 1) (N := some 35) #[true, true, true, false, false, false, false, false, false, false, false] rfl rfl (one_of HT_.out (by kernel_rfl)) (by decide) (fun K hK => ?_)
     refine goes_ Try.func13 (by kernel_rfl) rfl #[.agg #[.slice A0_0 l0_0.length c0_0, .slice A0_1 l0_1.length c0_1]] (by rfl) rfl rfl (by (try simp only [List.map_toArray, List.map_cons, List.map_nil]); first | done | rfl | (simp only [List.length_drop, List.length_take]; rfl)) ?_
     with_reducible refine (tensor_Grid_fix_F_Right.calls k _ _ l0_0 _ _ l0_1 t300 _ ?side1 ?side2 ?side3 ?side4 A36.out).mono ?_
     (case side1 => repeat (first | exact (Kd.C_below HR0_0.out HB.out) | (with_reducible refine Kd.C_alloc ?_ _) | (with_reducible refine Kd.C_drewN ?_ _) | (with_reducible refine Kd.C_drew ?_)))
     (case side2 => exact HC0_0.out)
     (case side3 => repeat (first | exact (Kd.C_below HR0_1.out HB.out) | (with_reducible refine Kd.C_alloc ?_ _) | (with_reducible refine Kd.C_drewN ?_ _) | (with_reducible refine Kd.C_drew ?_)))
     (case side4 => exact HC0_1.out)
     rintro e w41 ⟨rfl, hb⟩
     refine ⟨_, rfl, ?_⟩
     have n0_ := Aside0.mk (Kd.R_below (by (with_reducible repeat (first | apply Kd.R_alloc | apply Kd.R_drewN | apply Kd.R_drew)); exact HO279.out) hb)
     have n1_ := Aside0.mk (Kd.R_below (by (with_reducible repeat (first | apply Kd.R_alloc | apply Kd.R_drewN | apply Kd.R_drew)); exact HO282.out) hb)
     have n2_ := Aside0.mk (Kd.R_below (by (with_reducible repeat (first | apply Kd.R_alloc | apply Kd.R_drewN | apply Kd.R_drew)); exact HO287.out) hb)
     have n3_ := Aside0.mk (Kd.R_below (by (with_reducible repeat (first | apply Kd.R_alloc | apply Kd.R_drewN | apply Kd.R_drew)); exact HO290.out) hb)
     have n4_ := Aside0.mk (Kd.R_below (by (with_reducible repeat (first | apply Kd.R_alloc | apply Kd.R_drewN | apply Kd.R_drew)); exact HO295.out) hb)
     have n5_ := Aside0.mk (Kd.R_below (by (with_reducible repeat (first | apply Kd.R_alloc | apply Kd.R_drewN | apply Kd.R_drew)); exact HO298.out) hb)
     have n6_ := Aside0.mk (blk_below (g := gb274) (o := .cells #[.slice A0_0 l0_0.length c0_0, .slice A0_1 l0_1.length c0_1] 26 (0, 0)) (by (with_reducible repeat (first | refine blk_drewN ?_ _ | refine blk_drew ?_ | refine blk_alloc ?_ _)); exact BK274.out) hb)
     have n7_ := Aside0.mk (blk_below (g := gb284) (o := .cells #[.slice Ao15 t277.length co15, .slice Ao18 t280.length co18] 26 (0, 0)) (by (with_reducible repeat (first | refine blk_drewN ?_ _ | refine blk_drew ?_ | refine blk_alloc ?_ _)); exact BK284.out) hb)
     have n8_ := Aside0.mk (blk_below (g := gb292) (o := .cells #[.slice Ao22 t285.length co22, .slice Ao26 t288.length co26] 26 (0, 0)) (by (with_reducible repeat (first | refine blk_drewN ?_ _ | refine blk_drew ?_ | refine blk_alloc ?_ _)); exact BK292.out) hb)
     have n9_ := Aside0.mk (blk_below (g := gb299) (o := .cells #[.slice Ao30 t293.length co30, .slice Ao35 t296.length co35] 26 (0, 0)) (by (with_reducible repeat (first | refine blk_drewN ?_ _ | refine blk_drew ?_ | refine blk_alloc ?_ _)); exact BK299.out) hb)
     have n10_ := Aside0.mk (below_step (by repeat (first | (with_reducible first | exact HB.out | apply below_alloc | apply pw_below_drewN | apply below_drew1 | refine below_set ?_ GE274.out | refine below_set ?_ GE284.out | refine below_set ?_ GE292.out | refine below_set ?_ GE299.out) | exact HB.out)) hb)
     clear HO279
     clear HO282
     clear HO287
     clear HO290
     clear HO295
     clear HO298
     clear BK274
     clear BK284
     clear BK292
     clear BK299
     clear HB
     have HO279 := n0_
     have HO282 := n1_
     have HO287 := n2_
     have HO290 := n3_
     have HO295 := n4_
     have HO298 := n5_
     have BK274 := n6_
     have BK284 := n7_
     have BK292 := n8_
     have BK299 := n9_
     have HB := n10_
     clear n0_ n1_ n2_ n3_ n4_ n5_ n6_ n7_ n8_ n9_ n10_
     (try clear hb)
     (try clear hb2)
     (try clear hk)
     (try clear hi)
     refine hK.out _ _ ⟨(blk_cell BK274.out 0).trans rfl, (blk_cell BK274.out 1).trans rfl⟩ (fun hHeld => ?_)
     clear hK K
     refine norm_ (a' := ?_) ?_ ?_
     rotate_left
     ·show Act.put _ (some 35) _ = _
      simp only [Act.put, List.setIfInBounds_toArray, List.set_cons_zero, List.set_cons_succ, i64_w, i32_w]
      rfl
     refine one_ (i := 3) (N := some 37) #[true, true, true, true, false, false, false, false, false, false, false] rfl rfl (one_of HT_.out (by kernel_rfl)) (by decide) (fun K hK => ?_)
     refine goes_ Try.func14 (by kernel_rfl) rfl #[.agg #[.slice A0_0 l0_0.length c0_0, .slice A0_1 l0_1.length c0_1]] (by rfl) rfl rfl (by (try simp only [List.map_toArray, List.map_cons, List.map_nil]); first | done | rfl | (simp only [List.length_drop, List.length_take]; rfl)) ?_
     with_reducible refine (athanorlaw04_right.calls k _ _ l0_0 _ _ l0_1 t301 _ ?side1 ?side2 ?side3 ?side4 A37.out).mono ?_
     (case side1 => repeat (first | exact (Kd.C_below HR0_0.out HB.out) | (with_reducible refine Kd.C_alloc ?_ _) | (with_reducible refine Kd.C_drewN ?_ _) | (with_reducible refine Kd.C_drew ?_)))
     (case side2 => exact HC0_0.out)
     (case side3 => repeat (first | exact (Kd.C_below HR0_1.out HB.out) | (with_reducible refine Kd.C_alloc ?_ _) | (with_reducible refine Kd.C_drewN ?_ _) | (with_reducible refine Kd.C_drew ?_)))
     (case side4 => exact HC0_1.out)
     rintro e w42 ⟨rfl, hb⟩
     refine ⟨_, rfl, ?_⟩
     have n0_ := Aside0.mk (Kd.R_below (by (with_reducible repeat (first | apply Kd.R_alloc | apply Kd.R_drewN | apply Kd.R_drew)); exact HO279.out) hb)
     have n1_ := Aside0.mk (Kd.R_below (by (with_reducible repeat (first | apply Kd.R_alloc | apply Kd.R_drewN | apply Kd.R_drew)); exact HO282.out) hb)
     have n2_ := Aside0.mk (Kd.R_below (by (with_reducible repeat (first | apply Kd.R_alloc | apply Kd.R_drewN | apply Kd.R_drew)); exact HO287.out) hb)
     have n3_ := Aside0.mk (Kd.R_below (by (with_reducible repeat (first | apply Kd.R_alloc | apply Kd.R_drewN | apply Kd.R_drew)); exact HO290.out) hb)
     have n4_ := Aside0.mk (Kd.R_below (by (with_reducible repeat (first | apply Kd.R_alloc | apply Kd.R_drewN | apply Kd.R_drew)); exact HO295.out) hb)
     have n5_ := Aside0.mk (Kd.R_below (by (with_reducible repeat (first | apply Kd.R_alloc | apply Kd.R_drewN | apply Kd.R_drew)); exact HO298.out) hb)
     have n6_ := Aside0.mk (blk_below (g := gb274) (o := .cells #[.slice A0_0 l0_0.length c0_0, .slice A0_1 l0_1.length c0_1] 26 (0, 0)) (by (with_reducible repeat (first | refine blk_drewN ?_ _ | refine blk_drew ?_ | refine blk_alloc ?_ _)); exact BK274.out) hb)
     have n7_ := Aside0.mk (blk_below (g := gb284) (o := .cells #[.slice Ao15 t277.length co15, .slice Ao18 t280.length co18] 26 (0, 0)) (by (with_reducible repeat (first | refine blk_drewN ?_ _ | refine blk_drew ?_ | refine blk_alloc ?_ _)); exact BK284.out) hb)
     have n8_ := Aside0.mk (blk_below (g := gb292) (o := .cells #[.slice Ao22 t285.length co22, .slice Ao26 t288.length co26] 26 (0, 0)) (by (with_reducible repeat (first | refine blk_drewN ?_ _ | refine blk_drew ?_ | refine blk_alloc ?_ _)); exact BK292.out) hb)
     have n9_ := Aside0.mk (blk_below (g := gb299) (o := .cells #[.slice Ao30 t293.length co30, .slice Ao35 t296.length co35] 26 (0, 0)) (by (with_reducible repeat (first | refine blk_drewN ?_ _ | refine blk_drew ?_ | refine blk_alloc ?_ _)); exact BK299.out) hb)
     have n10_ := Aside0.mk (below_step (by repeat (first | (with_reducible first | exact HB.out | apply below_alloc | apply pw_below_drewN | apply below_drew1 | refine below_set ?_ GE274.out | refine below_set ?_ GE284.out | refine below_set ?_ GE292.out | refine below_set ?_ GE299.out) | exact HB.out)) hb)
     clear HO279
     clear HO282
     clear HO287
     clear HO290
     clear HO295
     clear HO298
     clear BK274
     clear BK284
     clear BK292
     clear BK299
     clear HB
     have HO279 := n0_
     have HO282 := n1_
     have HO287 := n2_
     have HO290 := n3_
     have HO295 := n4_
     have HO298 := n5_
     have BK274 := n6_
     have BK284 := n7_
     have BK292 := n8_
     have BK299 := n9_
     have HB := n10_
     clear n0_ n1_ n2_ n3_ n4_ n5_ n6_ n7_ n8_ n9_ n10_
     (try clear hb)
     (try clear hb2)
     (try clear hk)
     (try clear hi)
     refine hK.out _ _ ⟨(blk_cell BK274.out 0).trans rfl, (blk_cell BK274.out 1).trans rfl⟩ (fun hHeld => ?_)
     clear hK K
     refine norm_ (a' := ?_) ?_ ?_
     rotate_left
     ·show Act.put _ (some 37) _ = _
      simp only [Act.put, List.setIfInBounds_toArray, List.set_cons_zero, List.set_cons_succ, i64_w, i32_w]
      rfl
     refine pure_ (i := 4) (N := some 38) (v := ?_) (a' := ?_) #[true, true, true, true, true, false, false, false, false, false, false] rfl rfl (any_of HT_.out (by kernel_rfl)) (fun _ _ _ h => h) (Or.inl ⟨by rfl, ?_⟩) ?_ ?_
     rotate_left
     ·intro w'
      go_simp
      with_reducible rfl
     rotate_left
     ·simp only [Act.put, List.setIfInBounds_toArray, List.set_cons_zero, List.set_cons_succ, i64_w, i32_w]
      rfl
     refine pure_ (i := 5) (N := some 39) (v := ?_) (a' := ?_) #[true, true, true, true, true, true, false, false, false, false, false] rfl rfl (any_of HT_.out (by kernel_rfl)) (fun _ _ _ h => h) (Or.inl ⟨by rfl, ?_⟩) ?_ ?_
     rotate_left
     ·intro w'
      go_simp
      with_reducible rfl
     rotate_left
     ·simp only [Act.put, List.setIfInBounds_toArray, List.set_cons_zero, List.set_cons_succ, i64_w, i32_w]
      rfl
     refine pure_ (i := 6) (N := some 40) (v := undef) (a' := ?_) #[true, true, true, true, true, true, true, false, false, false, false] rfl rfl (any_of HT_.out (by kernel_rfl)) (fun _ _ _ h => h) (Or.inr ⟨by rfl, rfl⟩) ?_ ?_
     rotate_left
     ·simp only [Act.put, List.setIfInBounds_toArray, List.set_cons_zero, List.set_cons_succ, i64_w, i32_w]
      rfl
     refine pure_ (i := 7) (N := some 41) (v := undef) (a' := ?_) #[true, true, true, true, true, true, true, true, false, false, false] rfl rfl (any_of HT_.out (by kernel_rfl)) (fun _ _ _ h => h) (Or.inr ⟨by rfl, rfl⟩) ?_ ?_
     rotate_left
     ·simp only [Act.put, List.setIfInBounds_toArray, List.set_cons_zero, List.set_cons_succ, i64_w, i32_w]
      rfl
     refine pure_ (i := 8) (N := some 42) (v := undef) (a' := ?_) #[true, true, true, true, true, true, true, true, true, false, false] rfl rfl (any_of HT_.out (by kernel_rfl)) (fun _ _ _ h => h) (Or.inr ⟨by rfl, rfl⟩) ?_ ?_
     rotate_left
     ·simp only [Act.put, List.setIfInBounds_toArray, List.set_cons_zero, List.set_cons_succ, i64_w, i32_w]
      rfl
     refine pure_ (i := 9) (N := some 43) (v := undef) (a' := ?_) #[true, true, true, true, true, true, true, true, true, true, false] rfl rfl (any_of HT_.out (by kernel_rfl)) (fun _ _ _ h => h) (Or.inr ⟨by rfl, rfl⟩) ?_ ?_
     rotate_left
     ·simp only [Act.put, List.setIfInBounds_toArray, List.set_cons_zero, List.set_cons_succ, i64_w, i32_w]
      rfl
     refine pure_ (i := 10) (N := some 44) (v := ?_) (a' := ?_) #[true, true, true, true, true, true, true, true, true, true, true] rfl rfl (any_of HT_.out (by kernel_rfl)) (fun _ _ _ h => h) (Or.inl ⟨by rfl, ?_⟩) ?_ ?_
     rotate_left
     ·intro w'
      go_simp
      with_reducible rfl
     rotate_left
     ·simp only [Act.put, List.setIfInBounds_toArray, List.set_cons_zero, List.set_cons_succ, i64_w, i32_w]
      rfl
     refine done_ (done_of HT_.out (by kernel_rfl)) ?_
     iterate 7 (first | go_quiet (fail) | try go_wp2)
     go_meet
     case rel => exact ⟨_, (true), (by first | rfl | (simp; done) | (simp [*]; done)), H', ⟨by first | omega | exact Nat.le_refl _⟩, ⟨by (with_reducible repeat (first | apply Kd.R_alloc | apply Kd.R_drewN | apply Kd.R_drew)); exact HO279.out⟩, ⟨by (with_reducible repeat (first | apply Kd.R_alloc | apply Kd.R_drewN | apply Kd.R_drew)); exact HO282.out⟩, ⟨by (with_reducible repeat (first | apply Kd.R_alloc | apply Kd.R_drewN | apply Kd.R_drew)); exact HO287.out⟩, ⟨by (with_reducible repeat (first | apply Kd.R_alloc | apply Kd.R_drewN | apply Kd.R_drew)); exact HO290.out⟩, ⟨by (with_reducible repeat (first | apply Kd.R_alloc | apply Kd.R_drewN | apply Kd.R_drew)); exact HO295.out⟩, ⟨by (with_reducible repeat (first | apply Kd.R_alloc | apply Kd.R_drewN | apply Kd.R_drew)); exact HO298.out⟩, ⟨by (with_reducible repeat (first | refine blk_drewN ?_ _ | refine blk_drew ?_ | refine blk_alloc ?_ _)); exact BK274.out⟩, ⟨by (with_reducible repeat (first | refine blk_drewN ?_ _ | refine blk_drew ?_ | refine blk_alloc ?_ _)); exact BK284.out⟩, ⟨by (with_reducible repeat (first | refine blk_drewN ?_ _ | refine blk_drew ?_ | refine blk_alloc ?_ _)); exact BK292.out⟩, ⟨by (with_reducible repeat (first | refine blk_drewN ?_ _ | refine blk_drew ?_ | refine blk_alloc ?_ _)); exact BK299.out⟩, ⟨by repeat (first | (with_reducible first | exact HB.out | apply below_alloc | apply pw_below_drewN | apply below_drew1 | refine below_set ?_ GE274.out | refine below_set ?_ GE284.out | refine below_set ?_ GE292.out | refine below_set ?_ GE299.out) | exact HB.out)⟩⟩
   ·rw [if_neg c38] at H
    have c38b0 : (t300 != t301) = false := by simpa using c38
    (try (have c38b1 : decide (t300 = t301) = true := by simpa using c38))
    (try (have c38b2 : (t300 == t301) = true := by simpa using c38))
    clear c38
    (first | rw [c38b0] | (simp only [i64_w, i32_w]; rw [c38b0]) | skip)
    replace H := Option.bind_eq_some_iff.mp H
    obtain ⟨t302, A430, H⟩ := H
    replace H : (athanorlaw04_TensorMakes.j0 k a1 t283 t291 (!t302) l0_0 l0_1 t277 t280 t285 t288 t293 t296) = some r := H
    have A43 := Aside0.mk A430
    clear A430
    as_aux_lemma =>
     have H' := Aside0.mk H
     clear H
     try go_wp2
     have n0_ : Aside0 (Kd.R (Kd.int .i64) 3 ((w29.setCell ⟨gb299, 0, none⟩ (.slice Ao30 t293.length co30)).setCell ⟨gb299, 1, none⟩ (.slice Ao35 t296.length co35)) w.heap.size (fun k_ => some k_ ≠ (.slice Ao22 t285.length co22 : Value).ownBlock ∧ some k_ ≠ (.slice Ao30 t293.length co30 : Value).ownBlock) (.slice Ao15 t277.length co15) t277) := ⟨by (with_reducible repeat (first | apply Kd.R_alloc | apply Kd.R_drewN | apply Kd.R_drew)); exact Kd.R_mono (Kd.R_far (p := ⟨gb299, 1, none⟩) (Kd.R_far (p := ⟨gb299, 0, none⟩) (Kd.R_types HO279.out BK299.out (by decide)) (fun _ hk => hk.2) (.slice Ao30 t293.length co30)) (fun _ hk => hk.2) (.slice Ao35 t296.length co35)) (fun _ hk => ⟨hk.1.1.2, hk.1.2⟩)⟩
     have n1_ : Aside0 (Kd.R (Kd.int .i64) 27 ((w29.setCell ⟨gb299, 0, none⟩ (.slice Ao30 t293.length co30)).setCell ⟨gb299, 1, none⟩ (.slice Ao35 t296.length co35)) w.heap.size (fun k_ => some k_ ≠ (.slice Ao26 t288.length co26 : Value).ownBlock ∧ some k_ ≠ (.slice Ao35 t296.length co35 : Value).ownBlock) (.slice Ao18 t280.length co18) t280) := ⟨by (with_reducible repeat (first | apply Kd.R_alloc | apply Kd.R_drewN | apply Kd.R_drew)); exact Kd.R_mono (Kd.R_far (p := ⟨gb299, 1, none⟩) (Kd.R_far (p := ⟨gb299, 0, none⟩) (Kd.R_types HO282.out BK299.out (by decide)) (fun _ hk => hk.2) (.slice Ao30 t293.length co30)) (fun _ hk => hk.2) (.slice Ao35 t296.length co35)) (fun _ hk => ⟨hk.1.1.2, hk.1.2⟩)⟩
     have n2_ : Aside0 (Kd.R (Kd.int .i64) 3 ((w29.setCell ⟨gb299, 0, none⟩ (.slice Ao30 t293.length co30)).setCell ⟨gb299, 1, none⟩ (.slice Ao35 t296.length co35)) w.heap.size (fun k_ => some k_ ≠ (.slice Ao15 t277.length co15 : Value).ownBlock ∧ some k_ ≠ (.slice Ao30 t293.length co30 : Value).ownBlock) (.slice Ao22 t285.length co22) t285) := ⟨by (with_reducible repeat (first | apply Kd.R_alloc | apply Kd.R_drewN | apply Kd.R_drew)); exact Kd.R_mono (Kd.R_far (p := ⟨gb299, 1, none⟩) (Kd.R_far (p := ⟨gb299, 0, none⟩) (Kd.R_types HO287.out BK299.out (by decide)) (fun _ hk => hk.2) (.slice Ao30 t293.length co30)) (fun _ hk => hk.2) (.slice Ao35 t296.length co35)) (fun _ hk => ⟨hk.1.1.2, hk.1.2⟩)⟩
     have n3_ : Aside0 (Kd.R (Kd.int .i64) 27 ((w29.setCell ⟨gb299, 0, none⟩ (.slice Ao30 t293.length co30)).setCell ⟨gb299, 1, none⟩ (.slice Ao35 t296.length co35)) w.heap.size (fun k_ => some k_ ≠ (.slice Ao18 t280.length co18 : Value).ownBlock ∧ some k_ ≠ (.slice Ao35 t296.length co35 : Value).ownBlock) (.slice Ao26 t288.length co26) t288) := ⟨by (with_reducible repeat (first | apply Kd.R_alloc | apply Kd.R_drewN | apply Kd.R_drew)); exact Kd.R_mono (Kd.R_far (p := ⟨gb299, 1, none⟩) (Kd.R_far (p := ⟨gb299, 0, none⟩) (Kd.R_types HO290.out BK299.out (by decide)) (fun _ hk => hk.2) (.slice Ao30 t293.length co30)) (fun _ hk => hk.2) (.slice Ao35 t296.length co35)) (fun _ hk => ⟨hk.1.1.2, hk.1.2⟩)⟩
     have n4_ : Aside0 (Kd.R (Kd.int .i64) 3 ((w29.setCell ⟨gb299, 0, none⟩ (.slice Ao30 t293.length co30)).setCell ⟨gb299, 1, none⟩ (.slice Ao35 t296.length co35)) w.heap.size (fun k_ => some k_ ≠ (.slice Ao15 t277.length co15 : Value).ownBlock ∧ some k_ ≠ (.slice Ao22 t285.length co22 : Value).ownBlock) (.slice Ao30 t293.length co30) t293) := ⟨by (with_reducible repeat (first | apply Kd.R_alloc | apply Kd.R_drewN | apply Kd.R_drew)); exact Kd.R_mono (Kd.R_far (p := ⟨gb299, 1, none⟩) (Kd.R_far (p := ⟨gb299, 0, none⟩) (Kd.R_types HO295.out BK299.out (by decide)) (fun _ hk => hk.2) (.slice Ao30 t293.length co30)) (fun _ hk => hk.2) (.slice Ao35 t296.length co35)) (fun _ hk => ⟨hk.1.1.2, hk.1.2⟩)⟩
     have n5_ : Aside0 (Kd.R (Kd.int .i64) 27 ((w29.setCell ⟨gb299, 0, none⟩ (.slice Ao30 t293.length co30)).setCell ⟨gb299, 1, none⟩ (.slice Ao35 t296.length co35)) w.heap.size (fun k_ => some k_ ≠ (.slice Ao18 t280.length co18 : Value).ownBlock ∧ some k_ ≠ (.slice Ao26 t288.length co26 : Value).ownBlock) (.slice Ao35 t296.length co35) t296) := ⟨by (with_reducible repeat (first | apply Kd.R_alloc | apply Kd.R_drewN | apply Kd.R_drew)); exact Kd.R_mono (Kd.R_far (p := ⟨gb299, 1, none⟩) (Kd.R_far (p := ⟨gb299, 0, none⟩) (Kd.R_types HO298.out BK299.out (by decide)) (fun _ hk => hk.2) (.slice Ao30 t293.length co30)) (fun _ hk => hk.2) (.slice Ao35 t296.length co35)) (fun _ hk => ⟨hk.1.1.2, hk.1.2⟩)⟩
     have n6_ : Aside0 (((w29.setCell ⟨gb299, 0, none⟩ (.slice Ao30 t293.length co30)).setCell ⟨gb299, 1, none⟩ (.slice Ao35 t296.length co35)).heap[gb274]? = some (.cells #[.slice A0_0 l0_0.length c0_0, .slice A0_1 l0_1.length c0_1] 26 (0, 0))) := ⟨by (with_reducible repeat (first | refine blk_drewN ?_ _ | refine blk_drew ?_ | refine blk_alloc ?_ _)); refine blk_far ?_ NB274_299.out _; (with_reducible repeat (first | refine blk_drewN ?_ _ | refine blk_drew ?_ | refine blk_alloc ?_ _)); refine blk_far ?_ NB274_299.out _; (with_reducible repeat (first | refine blk_drewN ?_ _ | refine blk_drew ?_ | refine blk_alloc ?_ _)); exact BK274.out⟩
     have n7_ : Aside0 (((w29.setCell ⟨gb299, 0, none⟩ (.slice Ao30 t293.length co30)).setCell ⟨gb299, 1, none⟩ (.slice Ao35 t296.length co35)).heap[gb284]? = some (.cells #[.slice Ao15 t277.length co15, .slice Ao18 t280.length co18] 26 (0, 0))) := ⟨by (with_reducible repeat (first | refine blk_drewN ?_ _ | refine blk_drew ?_ | refine blk_alloc ?_ _)); refine blk_far ?_ NB284_299.out _; (with_reducible repeat (first | refine blk_drewN ?_ _ | refine blk_drew ?_ | refine blk_alloc ?_ _)); refine blk_far ?_ NB284_299.out _; (with_reducible repeat (first | refine blk_drewN ?_ _ | refine blk_drew ?_ | refine blk_alloc ?_ _)); exact BK284.out⟩
     have n8_ : Aside0 (((w29.setCell ⟨gb299, 0, none⟩ (.slice Ao30 t293.length co30)).setCell ⟨gb299, 1, none⟩ (.slice Ao35 t296.length co35)).heap[gb292]? = some (.cells #[.slice Ao22 t285.length co22, .slice Ao26 t288.length co26] 26 (0, 0))) := ⟨by (with_reducible repeat (first | refine blk_drewN ?_ _ | refine blk_drew ?_ | refine blk_alloc ?_ _)); refine blk_far ?_ NB292_299.out _; (with_reducible repeat (first | refine blk_drewN ?_ _ | refine blk_drew ?_ | refine blk_alloc ?_ _)); refine blk_far ?_ NB292_299.out _; (with_reducible repeat (first | refine blk_drewN ?_ _ | refine blk_drew ?_ | refine blk_alloc ?_ _)); exact BK292.out⟩
     have n9_ : Aside0 (((w29.setCell ⟨gb299, 0, none⟩ (.slice Ao30 t293.length co30)).setCell ⟨gb299, 1, none⟩ (.slice Ao35 t296.length co35)).heap[gb299]? = some (.cells #[.slice Ao30 t293.length co30, .slice Ao35 t296.length co35] 26 (0, 0))) := ⟨by (with_reducible repeat (first | refine blk_drewN ?_ _ | refine blk_drew ?_ | refine blk_alloc ?_ _)); refine blk_put (cs := #[.slice Ao30 t293.length co30, .slice none 0 0]) ?_ 1 _ rfl; (with_reducible repeat (first | refine blk_drewN ?_ _ | refine blk_drew ?_ | refine blk_alloc ?_ _)); refine blk_put (cs := #[.slice none 0 0, .slice none 0 0]) ?_ 0 _ rfl; (with_reducible repeat (first | refine blk_drewN ?_ _ | refine blk_drew ?_ | refine blk_alloc ?_ _)); exact BK299.out⟩
     have n10_ : Aside0 (Below w.heap.size w ((w29.setCell ⟨gb299, 0, none⟩ (.slice Ao30 t293.length co30)).setCell ⟨gb299, 1, none⟩ (.slice Ao35 t296.length co35))) := ⟨by repeat (first | (with_reducible first | exact HB.out | apply below_alloc | apply pw_below_drewN | apply below_drew1 | refine below_set ?_ GE274.out | refine below_set ?_ GE284.out | refine below_set ?_ GE292.out | refine below_set ?_ GE299.out) | exact HB.out)⟩
     (try clear HO279)
     (try clear HO282)
     (try clear HO287)
     (try clear HO290)
     (try clear HO295)
     (try clear HO298)
     (try clear BK274)
     (try clear BK284)
     (try clear BK292)
     (try clear BK299)
     (try clear HB)
     generalize ((w29.setCell ⟨gb299, 0, none⟩ (.slice Ao30 t293.length co30)).setCell ⟨gb299, 1, none⟩ (.slice Ao35 t296.length co35)) = w44 at n0_ n1_ n2_ n3_ n4_ n5_ n6_ n7_ n8_ n9_ n10_ ⊢
     have HO279 := n0_
     have HO282 := n1_
     have HO287 := n2_
     have HO290 := n3_
     have HO295 := n4_
     have HO298 := n5_
     have BK274 := n6_
     have BK284 := n7_
     have BK292 := n8_
     have BK299 := n9_
     have HB := n10_
     clear n0_ n1_ n2_ n3_ n4_ n5_ n6_ n7_ n8_ n9_ n10_
     have n0_ := Aside0.mk (Kd.R_drew HO279.out)
     have n1_ := Aside0.mk (Kd.R_drew HO282.out)
     have n2_ := Aside0.mk (Kd.R_drew HO287.out)
     have n3_ := Aside0.mk (Kd.R_drew HO290.out)
     have n4_ := Aside0.mk (Kd.R_drew HO295.out)
     have n5_ := Aside0.mk (Kd.R_drew HO298.out)
     have n6_ := Aside0.mk (blk_drew BK274.out)
     have n7_ := Aside0.mk (blk_drew BK284.out)
     have n8_ := Aside0.mk (blk_drew BK292.out)
     have n9_ := Aside0.mk (blk_drew BK299.out)
     have n10_ := Aside0.mk (below_drew1 HB.out)
     clear HO279
     clear HO282
     clear HO287
     clear HO290
     clear HO295
     clear HO298
     clear BK274
     clear BK284
     clear BK292
     clear BK299
     clear HB
     have HO279 := n0_
     have HO282 := n1_
     have HO287 := n2_
     have HO290 := n3_
     have HO295 := n4_
     have HO298 := n5_
     have BK274 := n6_
     have BK284 := n7_
     have BK292 := n8_
     have BK299 := n9_
     have HB := n10_
     clear n0_ n1_ n2_ n3_ n4_ n5_ n6_ n7_ n8_ n9_ n10_
     refine start_ (n := 11) (S := fun w' => w'.cell? ⟨gb274, 0, none⟩ = some (.slice A0_0 l0_0.length c0_0) ∧ w'.cell? ⟨gb274, 1, none⟩ = some (.slice A0_1 l0_1.length c0_1) ∧ w'.cell? ⟨gb299, 0, none⟩ = some (.slice Ao30 t293.length co30) ∧ w'.cell? ⟨gb299, 1, none⟩ = some (.slice Ao35 t296.length co35)) (ds := []) #[false, false, false, false, false, false, false, false, false, false, false] (by kernel_rfl) rfl rfl ⟨(blk_cell BK274.out 0).trans rfl, (blk_cell BK274.out 1).trans rfl, (blk_cell BK299.out 0).trans rfl, (blk_cell BK299.out 1).trans rfl⟩ (fun hHeld => ?_); refine with_tabW athanorlaw04_TensorMakes.tab6 athanorlaw04_TensorMakes.bits6 (fun HT_ HW_ => ?_)
     generalize w44.drew = w45 at HO279 HO282 HO287 HO290 HO295 HO298 BK274 BK284 BK292 BK299 HB hHeld ⊢
     refine take_ (i := 0) (N := some 34) (v := ?_) (a' := ?_) #[true, false, false, false, false, false, false, false, false, false, false] rfl rfl (take_ofW HT_.out HW_.out (by kernel_rfl)) (fun _ _ _ h => h) (Or.inl ⟨by rfl, ?_⟩) hHeld ?_ ?_
     rotate_left
     ·rintro w' ⟨s0, s1, s2, s3⟩
      go_simp
      with_reducible rfl
     rotate_left
     ·simp only [Act.put, List.setIfInBounds_toArray, List.set_cons_zero, List.set_cons_succ, i64_w, i32_w]
      rfl
     refine take_ (i := 2) (N := some 36) (v := ?_) (a' := ?_) #[true, false, true, false, false, false, false, false, false, false, false] rfl rfl (take_ofW HT_.out HW_.out (by kernel_rfl)) (fun _ _ _ h => h) (Or.inl ⟨by rfl, ?_⟩) hHeld ?_ ?_
     rotate_left
     ·rintro w' ⟨s0, s1, s2, s3⟩
      go_simp
      with_reducible rfl
     rotate_left
     ·simp only [Act.put, List.setIfInBounds_toArray, List.set_cons_zero, List.set_cons_succ, i64_w, i32_w]
      rfl
     refine one_ (i := 1) (N := some 35) #[true, true, true, false, false, false, false, false, false, false, false] rfl rfl (one_of HT_.out (by kernel_rfl)) (by decide) (fun K hK => ?_)
     refine goes_ Try.func13 (by kernel_rfl) rfl #[.agg #[.slice A0_0 l0_0.length c0_0, .slice A0_1 l0_1.length c0_1]] (by rfl) rfl rfl (by (try simp only [List.map_toArray, List.map_cons, List.map_nil]); first | done | rfl | (simp only [List.length_drop, List.length_take]; rfl)) ?_
     with_reducible refine (tensor_Grid_fix_F_Right.calls k _ _ l0_0 _ _ l0_1 t300 _ ?side1 ?side2 ?side3 ?side4 A36.out).mono ?_
     (case side1 => repeat (first | exact (Kd.C_below HR0_0.out HB.out) | (with_reducible refine Kd.C_alloc ?_ _) | (with_reducible refine Kd.C_drewN ?_ _) | (with_reducible refine Kd.C_drew ?_)))
     (case side2 => exact HC0_0.out)
     (case side3 => repeat (first | exact (Kd.C_below HR0_1.out HB.out) | (with_reducible refine Kd.C_alloc ?_ _) | (with_reducible refine Kd.C_drewN ?_ _) | (with_reducible refine Kd.C_drew ?_)))
     (case side4 => exact HC0_1.out)
     rintro e w46 ⟨rfl, hb⟩
     refine ⟨_, rfl, ?_⟩
     have n0_ := Aside0.mk (Kd.R_below (by (with_reducible repeat (first | apply Kd.R_alloc | apply Kd.R_drewN | apply Kd.R_drew)); exact HO279.out) hb)
     have n1_ := Aside0.mk (Kd.R_below (by (with_reducible repeat (first | apply Kd.R_alloc | apply Kd.R_drewN | apply Kd.R_drew)); exact HO282.out) hb)
     have n2_ := Aside0.mk (Kd.R_below (by (with_reducible repeat (first | apply Kd.R_alloc | apply Kd.R_drewN | apply Kd.R_drew)); exact HO287.out) hb)
     have n3_ := Aside0.mk (Kd.R_below (by (with_reducible repeat (first | apply Kd.R_alloc | apply Kd.R_drewN | apply Kd.R_drew)); exact HO290.out) hb)
     have n4_ := Aside0.mk (Kd.R_below (by (with_reducible repeat (first | apply Kd.R_alloc | apply Kd.R_drewN | apply Kd.R_drew)); exact HO295.out) hb)
     have n5_ := Aside0.mk (Kd.R_below (by (with_reducible repeat (first | apply Kd.R_alloc | apply Kd.R_drewN | apply Kd.R_drew)); exact HO298.out) hb)
     have n6_ := Aside0.mk (blk_below (g := gb274) (o := .cells #[.slice A0_0 l0_0.length c0_0, .slice A0_1 l0_1.length c0_1] 26 (0, 0)) (by (with_reducible repeat (first | refine blk_drewN ?_ _ | refine blk_drew ?_ | refine blk_alloc ?_ _)); exact BK274.out) hb)
     have n7_ := Aside0.mk (blk_below (g := gb284) (o := .cells #[.slice Ao15 t277.length co15, .slice Ao18 t280.length co18] 26 (0, 0)) (by (with_reducible repeat (first | refine blk_drewN ?_ _ | refine blk_drew ?_ | refine blk_alloc ?_ _)); exact BK284.out) hb)
     have n8_ := Aside0.mk (blk_below (g := gb292) (o := .cells #[.slice Ao22 t285.length co22, .slice Ao26 t288.length co26] 26 (0, 0)) (by (with_reducible repeat (first | refine blk_drewN ?_ _ | refine blk_drew ?_ | refine blk_alloc ?_ _)); exact BK292.out) hb)
     have n9_ := Aside0.mk (blk_below (g := gb299) (o := .cells #[.slice Ao30 t293.length co30, .slice Ao35 t296.length co35] 26 (0, 0)) (by (with_reducible repeat (first | refine blk_drewN ?_ _ | refine blk_drew ?_ | refine blk_alloc ?_ _)); exact BK299.out) hb)
     have n10_ := Aside0.mk (below_step (by repeat (first | (with_reducible first | exact HB.out | apply below_alloc | apply pw_below_drewN | apply below_drew1 | refine below_set ?_ GE274.out | refine below_set ?_ GE284.out | refine below_set ?_ GE292.out | refine below_set ?_ GE299.out) | exact HB.out)) hb)
     clear HO279
     clear HO282
     clear HO287
     clear HO290
     clear HO295
     clear HO298
     clear BK274
     clear BK284
     clear BK292
     clear BK299
     clear HB
     have HO279 := n0_
     have HO282 := n1_
     have HO287 := n2_
     have HO290 := n3_
     have HO295 := n4_
     have HO298 := n5_
     have BK274 := n6_
     have BK284 := n7_
     have BK292 := n8_
     have BK299 := n9_
     have HB := n10_
     clear n0_ n1_ n2_ n3_ n4_ n5_ n6_ n7_ n8_ n9_ n10_
     (try clear hb)
     (try clear hb2)
     (try clear hk)
     (try clear hi)
     refine hK.out _ _ ⟨(blk_cell BK274.out 0).trans rfl, (blk_cell BK274.out 1).trans rfl, (blk_cell BK299.out 0).trans rfl, (blk_cell BK299.out 1).trans rfl⟩ (fun hHeld => ?_)
     clear hK K
     refine norm_ (a' := ?_) ?_ ?_
     rotate_left
     ·show Act.put _ (some 35) _ = _
      simp only [Act.put, List.setIfInBounds_toArray, List.set_cons_zero, List.set_cons_succ, i64_w, i32_w]
      rfl
     refine one_ (i := 3) (N := some 37) #[true, true, true, true, false, false, false, false, false, false, false] rfl rfl (one_of HT_.out (by kernel_rfl)) (by decide) (fun K hK => ?_)
     refine goes_ Try.func14 (by kernel_rfl) rfl #[.agg #[.slice A0_0 l0_0.length c0_0, .slice A0_1 l0_1.length c0_1]] (by rfl) rfl rfl (by (try simp only [List.map_toArray, List.map_cons, List.map_nil]); first | done | rfl | (simp only [List.length_drop, List.length_take]; rfl)) ?_
     with_reducible refine (athanorlaw04_right.calls k _ _ l0_0 _ _ l0_1 t301 _ ?side1 ?side2 ?side3 ?side4 A37.out).mono ?_
     (case side1 => repeat (first | exact (Kd.C_below HR0_0.out HB.out) | (with_reducible refine Kd.C_alloc ?_ _) | (with_reducible refine Kd.C_drewN ?_ _) | (with_reducible refine Kd.C_drew ?_)))
     (case side2 => exact HC0_0.out)
     (case side3 => repeat (first | exact (Kd.C_below HR0_1.out HB.out) | (with_reducible refine Kd.C_alloc ?_ _) | (with_reducible refine Kd.C_drewN ?_ _) | (with_reducible refine Kd.C_drew ?_)))
     (case side4 => exact HC0_1.out)
     rintro e w47 ⟨rfl, hb⟩
     refine ⟨_, rfl, ?_⟩
     have n0_ := Aside0.mk (Kd.R_below (by (with_reducible repeat (first | apply Kd.R_alloc | apply Kd.R_drewN | apply Kd.R_drew)); exact HO279.out) hb)
     have n1_ := Aside0.mk (Kd.R_below (by (with_reducible repeat (first | apply Kd.R_alloc | apply Kd.R_drewN | apply Kd.R_drew)); exact HO282.out) hb)
     have n2_ := Aside0.mk (Kd.R_below (by (with_reducible repeat (first | apply Kd.R_alloc | apply Kd.R_drewN | apply Kd.R_drew)); exact HO287.out) hb)
     have n3_ := Aside0.mk (Kd.R_below (by (with_reducible repeat (first | apply Kd.R_alloc | apply Kd.R_drewN | apply Kd.R_drew)); exact HO290.out) hb)
     have n4_ := Aside0.mk (Kd.R_below (by (with_reducible repeat (first | apply Kd.R_alloc | apply Kd.R_drewN | apply Kd.R_drew)); exact HO295.out) hb)
     have n5_ := Aside0.mk (Kd.R_below (by (with_reducible repeat (first | apply Kd.R_alloc | apply Kd.R_drewN | apply Kd.R_drew)); exact HO298.out) hb)
     have n6_ := Aside0.mk (blk_below (g := gb274) (o := .cells #[.slice A0_0 l0_0.length c0_0, .slice A0_1 l0_1.length c0_1] 26 (0, 0)) (by (with_reducible repeat (first | refine blk_drewN ?_ _ | refine blk_drew ?_ | refine blk_alloc ?_ _)); exact BK274.out) hb)
     have n7_ := Aside0.mk (blk_below (g := gb284) (o := .cells #[.slice Ao15 t277.length co15, .slice Ao18 t280.length co18] 26 (0, 0)) (by (with_reducible repeat (first | refine blk_drewN ?_ _ | refine blk_drew ?_ | refine blk_alloc ?_ _)); exact BK284.out) hb)
     have n8_ := Aside0.mk (blk_below (g := gb292) (o := .cells #[.slice Ao22 t285.length co22, .slice Ao26 t288.length co26] 26 (0, 0)) (by (with_reducible repeat (first | refine blk_drewN ?_ _ | refine blk_drew ?_ | refine blk_alloc ?_ _)); exact BK292.out) hb)
     have n9_ := Aside0.mk (blk_below (g := gb299) (o := .cells #[.slice Ao30 t293.length co30, .slice Ao35 t296.length co35] 26 (0, 0)) (by (with_reducible repeat (first | refine blk_drewN ?_ _ | refine blk_drew ?_ | refine blk_alloc ?_ _)); exact BK299.out) hb)
     have n10_ := Aside0.mk (below_step (by repeat (first | (with_reducible first | exact HB.out | apply below_alloc | apply pw_below_drewN | apply below_drew1 | refine below_set ?_ GE274.out | refine below_set ?_ GE284.out | refine below_set ?_ GE292.out | refine below_set ?_ GE299.out) | exact HB.out)) hb)
     clear HO279
     clear HO282
     clear HO287
     clear HO290
     clear HO295
     clear HO298
     clear BK274
     clear BK284
     clear BK292
     clear BK299
     clear HB
     have HO279 := n0_
     have HO282 := n1_
     have HO287 := n2_
     have HO290 := n3_
     have HO295 := n4_
     have HO298 := n5_
     have BK274 := n6_
     have BK284 := n7_
     have BK292 := n8_
     have BK299 := n9_
     have HB := n10_
     clear n0_ n1_ n2_ n3_ n4_ n5_ n6_ n7_ n8_ n9_ n10_
     (try clear hb)
     (try clear hb2)
     (try clear hk)
     (try clear hi)
     refine hK.out _ _ ⟨(blk_cell BK274.out 0).trans rfl, (blk_cell BK274.out 1).trans rfl, (blk_cell BK299.out 0).trans rfl, (blk_cell BK299.out 1).trans rfl⟩ (fun hHeld => ?_)
     clear hK K
     refine norm_ (a' := ?_) ?_ ?_
     rotate_left
     ·show Act.put _ (some 37) _ = _
      simp only [Act.put, List.setIfInBounds_toArray, List.set_cons_zero, List.set_cons_succ, i64_w, i32_w]
      rfl
     refine pure_ (i := 4) (N := some 38) (v := ?_) (a' := ?_) #[true, true, true, true, true, false, false, false, false, false, false] rfl rfl (any_of HT_.out (by kernel_rfl)) (fun _ _ _ h => h) (Or.inl ⟨by rfl, ?_⟩) ?_ ?_
     rotate_left
     ·intro w'
      go_simp
      with_reducible rfl
     rotate_left
     ·simp only [Act.put, List.setIfInBounds_toArray, List.set_cons_zero, List.set_cons_succ, i64_w, i32_w]
      rfl
     refine pure_ (i := 5) (N := some 39) (v := ?_) (a' := ?_) #[true, true, true, true, true, true, false, false, false, false, false] rfl rfl (any_of HT_.out (by kernel_rfl)) (fun _ _ _ h => h) (Or.inl ⟨by rfl, ?_⟩) ?_ ?_
     rotate_left
     ·intro w'
      go_simp
      with_reducible rfl
     rotate_left
     ·simp only [Act.put, List.setIfInBounds_toArray, List.set_cons_zero, List.set_cons_succ, i64_w, i32_w]
      rfl
     refine take_ (i := 6) (N := some 40) (v := ?_) (a' := ?_) #[true, true, true, true, true, true, true, false, false, false, false] rfl rfl (take_ofW HT_.out HW_.out (by kernel_rfl)) (fun _ _ _ h => h) (Or.inl ⟨by rfl, ?_⟩) hHeld ?_ ?_
     rotate_left
     ·rintro w' ⟨s0, s1, s2, s3⟩
      go_simp
      with_reducible rfl
     rotate_left
     ·simp only [Act.put, List.setIfInBounds_toArray, List.set_cons_zero, List.set_cons_succ, i64_w, i32_w]
      rfl
     refine take_ (i := 7) (N := some 41) (v := ?_) (a' := ?_) #[true, true, true, true, true, true, true, true, false, false, false] rfl rfl (take_ofW HT_.out HW_.out (by kernel_rfl)) (fun _ _ _ h => h) (Or.inl ⟨by rfl, ?_⟩) hHeld ?_ ?_
     rotate_left
     ·rintro w' ⟨s0, s1, s2, s3⟩
      go_simp
      with_reducible rfl
     rotate_left
     ·simp only [Act.put, List.setIfInBounds_toArray, List.set_cons_zero, List.set_cons_succ, i64_w, i32_w]
      rfl
     refine one_ (i := 8) (N := some 42) #[true, true, true, true, true, true, true, true, true, false, false] rfl rfl (one_of HT_.out (by kernel_rfl)) (by decide) (fun K hK => ?_)
     refine goes_ Try.func15 (by kernel_rfl) rfl #[.agg #[.slice Ao30 t293.length co30, .slice Ao35 t296.length co35], .agg #[.slice A0_0 l0_0.length c0_0, .slice A0_1 l0_1.length c0_1]] (by rfl) rfl rfl (by (try simp only [List.map_toArray, List.map_cons, List.map_nil]); first | done | rfl | (simp only [List.length_drop, List.length_take]; rfl)) ?_
     with_reducible refine (tensor_Equal_fix_F.calls k _ _ t293 _ _ t296 _ _ l0_0 _ _ l0_1 t302 _ ?side1 ?side2 ?side3 ?side4 ?side5 ?side6 ?side7 ?side8 A43.out).mono ?_
     (case side1 => repeat (first | exact (Kd.R_reads' HO295.out).2.2 | (with_reducible refine Kd.C_alloc ?_ _) | (with_reducible refine Kd.C_drewN ?_ _) | (with_reducible refine Kd.C_drew ?_)))
     (case side2 => exact (Kd.R_reads' HO295.out).2.1)
     (case side3 => repeat (first | exact (Kd.R_reads' HO298.out).2.2 | (with_reducible refine Kd.C_alloc ?_ _) | (with_reducible refine Kd.C_drewN ?_ _) | (with_reducible refine Kd.C_drew ?_)))
     (case side4 => exact (Kd.R_reads' HO298.out).2.1)
     (case side5 => repeat (first | exact (Kd.C_below HR0_0.out HB.out) | (with_reducible refine Kd.C_alloc ?_ _) | (with_reducible refine Kd.C_drewN ?_ _) | (with_reducible refine Kd.C_drew ?_)))
     (case side6 => exact HC0_0.out)
     (case side7 => repeat (first | exact (Kd.C_below HR0_1.out HB.out) | (with_reducible refine Kd.C_alloc ?_ _) | (with_reducible refine Kd.C_drewN ?_ _) | (with_reducible refine Kd.C_drew ?_)))
     (case side8 => exact HC0_1.out)
     rintro e w48 ⟨rfl, hb⟩
     refine ⟨_, rfl, ?_⟩
     have n0_ := Aside0.mk (Kd.R_below (by (with_reducible repeat (first | apply Kd.R_alloc | apply Kd.R_drewN | apply Kd.R_drew)); exact HO279.out) hb)
     have n1_ := Aside0.mk (Kd.R_below (by (with_reducible repeat (first | apply Kd.R_alloc | apply Kd.R_drewN | apply Kd.R_drew)); exact HO282.out) hb)
     have n2_ := Aside0.mk (Kd.R_below (by (with_reducible repeat (first | apply Kd.R_alloc | apply Kd.R_drewN | apply Kd.R_drew)); exact HO287.out) hb)
     have n3_ := Aside0.mk (Kd.R_below (by (with_reducible repeat (first | apply Kd.R_alloc | apply Kd.R_drewN | apply Kd.R_drew)); exact HO290.out) hb)
     have n4_ := Aside0.mk (Kd.R_below (by (with_reducible repeat (first | apply Kd.R_alloc | apply Kd.R_drewN | apply Kd.R_drew)); exact HO295.out) hb)
     have n5_ := Aside0.mk (Kd.R_below (by (with_reducible repeat (first | apply Kd.R_alloc | apply Kd.R_drewN | apply Kd.R_drew)); exact HO298.out) hb)
     have n6_ := Aside0.mk (blk_below (g := gb274) (o := .cells #[.slice A0_0 l0_0.length c0_0, .slice A0_1 l0_1.length c0_1] 26 (0, 0)) (by (with_reducible repeat (first | refine blk_drewN ?_ _ | refine blk_drew ?_ | refine blk_alloc ?_ _)); exact BK274.out) hb)
     have n7_ := Aside0.mk (blk_below (g := gb284) (o := .cells #[.slice Ao15 t277.length co15, .slice Ao18 t280.length co18] 26 (0, 0)) (by (with_reducible repeat (first | refine blk_drewN ?_ _ | refine blk_drew ?_ | refine blk_alloc ?_ _)); exact BK284.out) hb)
     have n8_ := Aside0.mk (blk_below (g := gb292) (o := .cells #[.slice Ao22 t285.length co22, .slice Ao26 t288.length co26] 26 (0, 0)) (by (with_reducible repeat (first | refine blk_drewN ?_ _ | refine blk_drew ?_ | refine blk_alloc ?_ _)); exact BK292.out) hb)
     have n9_ := Aside0.mk (blk_below (g := gb299) (o := .cells #[.slice Ao30 t293.length co30, .slice Ao35 t296.length co35] 26 (0, 0)) (by (with_reducible repeat (first | refine blk_drewN ?_ _ | refine blk_drew ?_ | refine blk_alloc ?_ _)); exact BK299.out) hb)
     have n10_ := Aside0.mk (below_step (by repeat (first | (with_reducible first | exact HB.out | apply below_alloc | apply pw_below_drewN | apply below_drew1 | refine below_set ?_ GE274.out | refine below_set ?_ GE284.out | refine below_set ?_ GE292.out | refine below_set ?_ GE299.out) | exact HB.out)) hb)
     clear HO279
     clear HO282
     clear HO287
     clear HO290
     clear HO295
     clear HO298
     clear BK274
     clear BK284
     clear BK292
     clear BK299
     clear HB
     have HO279 := n0_
     have HO282 := n1_
     have HO287 := n2_
     have HO290 := n3_
     have HO295 := n4_
     have HO298 := n5_
     have BK274 := n6_
     have BK284 := n7_
     have BK292 := n8_
     have BK299 := n9_
     have HB := n10_
     clear n0_ n1_ n2_ n3_ n4_ n5_ n6_ n7_ n8_ n9_ n10_
     (try clear hb)
     (try clear hb2)
     (try clear hk)
     (try clear hi)
     refine hK.out _ _ ⟨(blk_cell BK274.out 0).trans rfl, (blk_cell BK274.out 1).trans rfl, (blk_cell BK299.out 0).trans rfl, (blk_cell BK299.out 1).trans rfl⟩ (fun hHeld => ?_)
     clear hK K
     refine norm_ (a' := ?_) ?_ ?_
     rotate_left
     ·show Act.put _ (some 42) _ = _
      simp only [Act.put, List.setIfInBounds_toArray, List.set_cons_zero, List.set_cons_succ, i64_w, i32_w]
      rfl
     refine pure_ (i := 9) (N := some 43) (v := ?_) (a' := ?_) #[true, true, true, true, true, true, true, true, true, true, false] rfl rfl (any_of HT_.out (by kernel_rfl)) (fun _ _ _ h => h) (Or.inl ⟨by rfl, ?_⟩) ?_ ?_
     rotate_left
     ·intro w'
      go_simp
      with_reducible rfl
     rotate_left
     ·simp only [Act.put, List.setIfInBounds_toArray, List.set_cons_zero, List.set_cons_succ, i64_w, i32_w]
      rfl
     refine pure_ (i := 10) (N := some 44) (v := ?_) (a' := ?_) #[true, true, true, true, true, true, true, true, true, true, true] rfl rfl (any_of HT_.out (by kernel_rfl)) (fun _ _ _ h => h) (Or.inl ⟨by rfl, ?_⟩) ?_ ?_
     rotate_left
     ·intro w'
      go_simp
      with_reducible rfl
     rotate_left
     ·simp only [Act.put, List.setIfInBounds_toArray, List.set_cons_zero, List.set_cons_succ, i64_w, i32_w]
      rfl
     refine done_ (done_of HT_.out (by kernel_rfl)) ?_
     iterate 7 (first | go_quiet (fail) | try go_wp2)
     go_meet
     case rel => exact ⟨_, (!t302), (by first | rfl | (simp; done) | (simp [*]; done)), H', ⟨by first | omega | exact Nat.le_refl _⟩, ⟨by (with_reducible repeat (first | apply Kd.R_alloc | apply Kd.R_drewN | apply Kd.R_drew)); exact HO279.out⟩, ⟨by (with_reducible repeat (first | apply Kd.R_alloc | apply Kd.R_drewN | apply Kd.R_drew)); exact HO282.out⟩, ⟨by (with_reducible repeat (first | apply Kd.R_alloc | apply Kd.R_drewN | apply Kd.R_drew)); exact HO287.out⟩, ⟨by (with_reducible repeat (first | apply Kd.R_alloc | apply Kd.R_drewN | apply Kd.R_drew)); exact HO290.out⟩, ⟨by (with_reducible repeat (first | apply Kd.R_alloc | apply Kd.R_drewN | apply Kd.R_drew)); exact HO295.out⟩, ⟨by (with_reducible repeat (first | apply Kd.R_alloc | apply Kd.R_drewN | apply Kd.R_drew)); exact HO298.out⟩, ⟨by (with_reducible repeat (first | refine blk_drewN ?_ _ | refine blk_drew ?_ | refine blk_alloc ?_ _)); exact BK274.out⟩, ⟨by (with_reducible repeat (first | refine blk_drewN ?_ _ | refine blk_drew ?_ | refine blk_alloc ?_ _)); exact BK284.out⟩, ⟨by (with_reducible repeat (first | refine blk_drewN ?_ _ | refine blk_drew ?_ | refine blk_alloc ?_ _)); exact BK292.out⟩, ⟨by (with_reducible repeat (first | refine blk_drewN ?_ _ | refine blk_drew ?_ | refine blk_alloc ?_ _)); exact BK299.out⟩, ⟨by repeat (first | (with_reducible first | exact HB.out | apply below_alloc | apply pw_below_drewN | apply below_drew1 | refine below_set ?_ GE274.out | refine below_set ?_ GE284.out | refine below_set ?_ GE292.out | refine below_set ?_ GE299.out) | exact HB.out)⟩⟩
  case rest =>
   clear HC8
   (try clear c1); (try clear c2); (try clear p2); (try clear c3); (try clear c8); (try clear c10); (try clear c11); (try clear c12); (try clear c13); (try clear c14); (try clear c15); (try clear c16); (try clear c23); (try clear c24); (try clear c31); (try clear c32); (try clear c33); (try clear c38); (try clear c38b0); (try clear c38b1); (try clear c38b2); (try clear hcz10_0); (try clear hcz10_1); (try clear hcz12_0); (try clear hcz12_1); (try clear hcz17_0); (try clear hcz17_1); (try clear hcz19_0); (try clear hcz19_1); (try clear hcz25_0); (try clear hcz25_1); (try clear hcz27_0); (try clear hcz27_1); (try clear hcz34_0); (try clear hcz34_1); (try clear hfz10_0); (try clear hfz10_1); (try clear hfz12_0); (try clear hfz12_1); (try clear hfz17_0); (try clear hfz17_1); (try clear hfz19_0); (try clear hfz19_1); (try clear hfz25_0); (try clear hfz25_1); (try clear hfz27_0); (try clear hfz27_1); (try clear hfz34_0); (try clear hfz34_1)
   obtain ⟨kq, x44_7, rfl, HA, HJ7, HO_285000, HO_285001, HO_293000, HO_293001, HO_300000, HO_300001, BK274, BK284, BK292, BK299, HB⟩ := hcut
   cases kq with
   | zero => exact absurd HA.out (by simp [athanorlaw04_TensorMakes.j0])
   | succ kj7 =>
    have H := HA.out
    clear HA
    simp only [athanorlaw04_TensorMakes.j0] at H
    by_cases c49 : x44_7 = true
    ·subst c49
     have H1 : (none) = some r := by rw [if_pos rfl] at H; exact H
     clear H
     have H := H1
     clear H1
     exact absurd H (by simp)
    ·replace c49 := Bool.eq_false_iff.mpr c49
     subst c49
     have H1 : (athanorlaw04_TensorMakes.l0 kj7 a1 t283 t291 (t296.length : Int) 0 l0_0 l0_1 t277 t280 t285 t288 t293 t296) = some r := by rw [if_neg (show ¬ (false = true) by decide)] at H; exact H
     clear H
     have H := H1
     clear H1
     have H' := Aside0.mk H
     clear H
     have hnb50 := NB299_274.out
     have hnc50 := NB274_299.out
     have hnb51 := NB299_284.out
     have hnc51 := NB284_299.out
     have hnb52 := NB299_292.out
     have hnc52 := NB292_299.out
     have hcz53_0 : wc.cell? ⟨gb299, 0, none⟩ = some (.slice Ao30 t293.length co30) := (blk_cell BK299.out 0).trans rfl
     have hcz53_1 : wc.cell? ⟨gb299, 1, none⟩ = some (.slice Ao35 t296.length co35) := (blk_cell BK299.out 1).trans rfl
     have hfz53_0 := blk_frozen BK299.out 0
     have hfz53_1 := blk_frozen BK299.out 1
     iterate 7 (first | go_quiet (fail) | try go_wp2)
     go_loopg [48] kj7 (fun kq v48 w' => ∃ (x48_2 : Int) (x285001_2 : List Int) (x293001_2 : List Int) (x300001_2 : List Int) (u285001 : Value) (u293001 : Value) (u300001 : Value), v48 = .int .i64 x48_2 ∧ Aside0 (athanorlaw04_TensorMakes.l0 kq a1 t283 t291 (t296.length : Int) x48_2 l0_0 l0_1 t277 x285001_2 t285 x293001_2 t293 x300001_2 = some r) ∧ Aside0 (kq ≤ kj7) ∧ Aside0 (Kd.R (Kd.int .i64) 3 w' w.heap.size (fun k_ => some k_ ≠ ((.slice Ao22 t285.length co22) : Value).ownBlock ∧ some k_ ≠ ((.slice Ao30 t293.length co30) : Value).ownBlock) (.slice Ao15 t277.length co15) t277) ∧ Aside0 (Kd.R (Kd.int .i64) 27 w' w.heap.size (fun k_ => some k_ ≠ (u293001 : Value).ownBlock ∧ some k_ ≠ (u300001 : Value).ownBlock) u285001 x285001_2) ∧ Aside0 (Kd.R (Kd.int .i64) 3 w' w.heap.size (fun k_ => some k_ ≠ ((.slice Ao15 t277.length co15) : Value).ownBlock ∧ some k_ ≠ ((.slice Ao30 t293.length co30) : Value).ownBlock) (.slice Ao22 t285.length co22) t285) ∧ Aside0 (Kd.R (Kd.int .i64) 27 w' w.heap.size (fun k_ => some k_ ≠ (u285001 : Value).ownBlock ∧ some k_ ≠ (u300001 : Value).ownBlock) u293001 x293001_2) ∧ Aside0 (Kd.R (Kd.int .i64) 3 w' w.heap.size (fun k_ => some k_ ≠ ((.slice Ao15 t277.length co15) : Value).ownBlock ∧ some k_ ≠ ((.slice Ao22 t285.length co22) : Value).ownBlock) (.slice Ao30 t293.length co30) t293) ∧ Aside0 (Kd.R (Kd.int .i64) 27 w' w.heap.size (fun k_ => some k_ ≠ (u285001 : Value).ownBlock ∧ some k_ ≠ (u293001 : Value).ownBlock) u300001 x300001_2) ∧ Aside0 (w'.heap[gb274]? = some (.cells #[(.slice A0_0 l0_0.length c0_0), (.slice A0_1 l0_1.length c0_1)] 26 (0, 0))) ∧ Aside0 (w'.heap[gb284]? = some (.cells #[(.slice Ao15 t277.length co15), u285001] 26 (0, 0))) ∧ Aside0 (w'.heap[gb292]? = some (.cells #[(.slice Ao22 t285.length co22), u293001] 26 (0, 0))) ∧ Aside0 (w'.heap[gb299]? = some (.cells #[(.slice Ao30 t293.length co30), u300001] 26 (0, 0))) ∧ Aside0 (Below w.heap.size w w'))
     case atStart => exact ⟨(0), (t280), (t288), (t296), (.slice Ao18 t280.length co18), (.slice Ao26 t288.length co26), (.slice Ao35 t296.length co35), (by first | rfl | (simp; done) | (simp [*]; done)), H', ⟨Nat.le_refl _⟩, ⟨by (with_reducible repeat (first | apply Kd.R_alloc | apply Kd.R_drewN | apply Kd.R_drew)); exact HO_285000.out⟩, ⟨by (with_reducible repeat (first | apply Kd.R_alloc | apply Kd.R_drewN | apply Kd.R_drew)); exact HO_285001.out⟩, ⟨by (with_reducible repeat (first | apply Kd.R_alloc | apply Kd.R_drewN | apply Kd.R_drew)); exact HO_293000.out⟩, ⟨by (with_reducible repeat (first | apply Kd.R_alloc | apply Kd.R_drewN | apply Kd.R_drew)); exact HO_293001.out⟩, ⟨by (with_reducible repeat (first | apply Kd.R_alloc | apply Kd.R_drewN | apply Kd.R_drew)); exact HO_300000.out⟩, ⟨by (with_reducible repeat (first | apply Kd.R_alloc | apply Kd.R_drewN | apply Kd.R_drew)); exact HO_300001.out⟩, ⟨by (with_reducible repeat (first | refine blk_drewN ?_ _ | refine blk_drew ?_ | refine blk_alloc ?_ _)); exact BK274.out⟩, ⟨by (with_reducible repeat (first | refine blk_drewN ?_ _ | refine blk_drew ?_ | refine blk_alloc ?_ _)); exact BK284.out⟩, ⟨by (with_reducible repeat (first | refine blk_drewN ?_ _ | refine blk_drew ?_ | refine blk_alloc ?_ _)); exact BK292.out⟩, ⟨by (with_reducible repeat (first | refine blk_drewN ?_ _ | refine blk_drew ?_ | refine blk_alloc ?_ _)); exact BK299.out⟩, ⟨by repeat (first | (with_reducible first | exact HB.out | apply below_alloc | apply pw_below_drewN | apply below_drew1 | refine below_set ?_ GE274.out | refine below_set ?_ GE284.out | refine below_set ?_ GE292.out | refine below_set ?_ GE299.out) | exact HB.out)⟩⟩
     case round =>
      clear H'
      (try clear c1); (try clear c2); (try clear p2); (try clear c3); (try clear c4); (try clear c5); (try clear c8); (try clear c10); (try clear c11); (try clear c12); (try clear c13); (try clear c14); (try clear c15); (try clear c16); (try clear c23); (try clear c24); (try clear c31); (try clear c32); (try clear c33); (try clear c38); (try clear c38b0); (try clear c38b1); (try clear c38b2); (try clear c49); (try clear c50); (try clear c51); (try clear c52); (try clear hcz10_0); (try clear hcz10_1); (try clear hcz12_0); (try clear hcz12_1); (try clear hcz17_0); (try clear hcz17_1); (try clear hcz19_0); (try clear hcz19_1); (try clear hcz25_0); (try clear hcz25_1); (try clear hcz27_0); (try clear hcz27_1); (try clear hcz34_0); (try clear hcz34_1); (try clear hcz53_0); (try clear hcz53_1); (try clear hfz10_0); (try clear hfz10_1); (try clear hfz12_0); (try clear hfz12_1); (try clear hfz17_0); (try clear hfz17_1); (try clear hfz19_0); (try clear hfz19_1); (try clear hfz25_0); (try clear hfz25_1); (try clear hfz27_0); (try clear hfz27_1); (try clear hfz34_0); (try clear hfz34_1); (try clear hfz53_0); (try clear hfz53_1); (try clear p2)
      obtain ⟨x48_2, x285001_2, x293001_2, x300001_2, u285001, u293001, u300001, rfl, HA, HK2, HO_285000, HO_285001, HO_293000, HO_293001, HO_300000, HO_300001, BK274, BK284, BK292, BK299, HB⟩ := hrel
      cases gk with
      | zero => exact absurd HA.out (by simp [athanorlaw04_TensorMakes.l0])
      | succ k2 =>
       have H := HA.out
       clear HA
       simp only [athanorlaw04_TensorMakes.l0] at H
       by_cases c54 : x48_2 < (t296.length : Int)
       ·rw [if_pos c54] at H
        have c54b0 : decide (x48_2 < (t296.length : Int)) = true := decide_eq_true c54
        clear c54
        by_cases c55 : 0 ≤ x48_2
        ·rw [if_pos c55] at H
         have c55b0 : decide (0 ≤ x48_2) = true := decide_eq_true c55
         clear c55
         by_cases c56 : x48_2 < (x300001_2.length : Int)
         ·rw [if_pos c56] at H
          have c56b0 : decide (x48_2 < (x300001_2.length : Int)) = true := decide_eq_true c56
          clear c56
          obtain ⟨y304, hy304⟩ : ∃ y_ : List Int, y_ = (x300001_2.set (x48_2 : Int).toNat (wrap64 ((rd x300001_2 x48_2) + 1))) := ⟨_, rfl⟩
          replace H : (if x48_2 ≥ (l0_1.length : Int) then (none) else (if x48_2 < (l0_1.length : Int) then (if (wrap64 ((rd l0_1 x48_2) + 1)) = (rd y304 x48_2) then (athanorlaw04_TensorMakes.l0 k2 a1 t283 t291 (t296.length : Int) (wrap64 (x48_2 + 1)) l0_0 l0_1 t277 x285001_2 t285 x293001_2 t293 y304) else (none)) else (none))) = some r := by first | (rw [hy304]; with_reducible exact H) | (have H2_ := (Option.bind_some _ _).symm.trans H; rw [hy304]; with_reducible exact H2_) | (have H2_ := (Option.bind_some _ _).symm.trans H; with_reducible exact H2_) | with_reducible exact H | (rw [hy304]; exact H) | exact H
          have Ny304 := Aside0.mk hy304
          clear hy304
          by_cases c58 : x48_2 ≥ (l0_1.length : Int)
          ·rw [if_pos c58] at H
           exact absurd H (by simp)
          ·rw [if_neg c58] at H
           have c58b0 : decide ((l0_1.length : Int) ≤ x48_2) = false := decide_eq_false c58
           clear c58
           by_cases c59 : x48_2 < (l0_1.length : Int)
           ·rw [if_pos c59] at H
            have c59b0 : decide (x48_2 < (l0_1.length : Int)) = true := decide_eq_true c59
            clear c59
            by_cases c60 : (wrap64 ((rd l0_1 x48_2) + 1)) = (rd y304 x48_2)
            ·rw [if_pos c60] at H
             have c60b0 : ((wrap64 ((rd l0_1 x48_2) + 1)) == (rd y304 x48_2)) = true := beq_iff_eq.mpr c60
             have c60b1 : ((wrap64 ((rd l0_1 x48_2) + 1)) != (rd y304 x48_2)) = false := bne_eq_false_iff_eq.mpr c60
             clear c60
             as_aux_lemma =>
              have H' := Aside0.mk H
              clear H
              have hnb61 := NB299_274.out
              have hnc61 := NB274_299.out
              have hnb62 := NB299_284.out
              have hnc62 := NB284_299.out
              have hnb63 := NB299_292.out
              have hnc63 := NB292_299.out
              have hcz64_0 : wr.cell? ⟨gb299, 0, none⟩ = some (.slice Ao30 t293.length co30) := (blk_cell BK299.out 0).trans rfl
              have hcz64_1 : wr.cell? ⟨gb299, 1, none⟩ = some (u300001) := (blk_cell BK299.out 1).trans rfl
              have hfz64_0 := blk_frozen BK299.out 0
              have hfz64_1 := blk_frozen BK299.out 1
              obtain ⟨Ao65, co65, eo65⟩ := Kd.R_slice HO_300001.out
              subst eo65
              have p303 : 0 ≤ (x48_2 : Int) := of_decide_eq_true (by first | (with_reducible assumption) | assumption)
              have q303 : x48_2 < (x300001_2.length : Int) := of_decide_eq_true (by first | (with_reducible assumption) | assumption)
              obtain ⟨ad303, e303, hx303_0⟩ := Kd.at_int (Kd.R_reads' HO_300001.out).2.2 x48_2 p303 q303
              cases e303
              replace p303 := eq_true p303
              replace q303 := eq_true q303
              have p57 : 0 ≤ (x48_2 : Int) := of_decide_eq_true (by first | (with_reducible assumption) | assumption)
              have q57 : (x48_2 : Int) < ((x300001_2.length : Int) : Int) := of_decide_eq_true (by first | (with_reducible assumption) | assumption)
              obtain ⟨go57, co57, eo57, gb57, gl57, cl57, HG57⟩ := Kd.R_form HO_300001.out (by omega)
              (first | cases eo57 | (injection eo57 with ea_ en_ ec_; (first | subst ea_ | (injection ea_ with ea_; subst ea_)); subst ec_; clear en_))
              have GB57 := Aside0.mk gb57
              have GG57 := Aside0.mk HG57
              clear gb57 gl57 HG57
              (first | simp only [add_plain] at hx303_0 | skip)
              obtain ⟨hx57_0, hf57_0⟩ := Kd.R_celln 0 HO_300001.out (x48_2 : Int) p57 q57
              replace p57 := eq_true p57
              replace q57 := eq_true q57
              have HP66 := Kd.R_putg HO_300001.out (x48_2 : Int) (wrap64 ((rd x300001_2 x48_2) + 1))
              iterate 7 (first | go_quiet (first | ((with_reducible refine gate_store (t := 27) (p := 57) rfl ?_); refine store_event (t := 27) (p := 57) (v := ?vo_w67) (w1 := (wr.setCell ⟨go57, (x48_2 : Int).toNat, none⟩ (.int .i64 (wrap64 ((rd x300001_2 x48_2) + 1))))) ?hg ?ho ?hn ?hr ?_; (case ho => rfl); (case hg => rfl); (case hn => rfl); (case hr => first | (go_simp; done) | (go_simp; rfl)); intro w67 hw; have hg : wr.grownBy w67 (some go57) := (by rw [hw]; exact HP66.2); have hp_ : Kd.R (Kd.int .i64) 27 w67 w.heap.size (fun k_ => some k_ ≠ (u285001 : Value).ownBlock ∧ some k_ ≠ (u293001 : Value).ownBlock) (.slice (some ⟨go57, 0, none⟩) x300001_2.length co65) y304 := (by rw [hw, Ny304.out]; exact HP66.1); clear HP66; have n0_ := Aside0.mk (Kd.R_over' (v := (.slice (some ⟨go57, 0, none⟩) x300001_2.length co65)) (by (with_reducible repeat (first | apply Kd.R_alloc | apply Kd.R_drewN | apply Kd.R_drew)); exact HO_285000.out) (Kd.R_typed HO_300001.out) (by decide) hg); have n1_ := Aside0.mk (Kd.R_after (v := (.slice (some ⟨go57, 0, none⟩) x300001_2.length co65)) (v1 := (.slice (some ⟨go57, 0, none⟩) x300001_2.length co65)) (ok := (fun k_ => some k_ ≠ (u293001 : Value).ownBlock)) (by (with_reducible repeat (first | apply Kd.R_alloc | apply Kd.R_drewN | apply Kd.R_drew)); exact HO_285001.out) hg (.inl rfl)); have n2_ := Aside0.mk (Kd.R_over' (v := (.slice (some ⟨go57, 0, none⟩) x300001_2.length co65)) (by (with_reducible repeat (first | apply Kd.R_alloc | apply Kd.R_drewN | apply Kd.R_drew)); exact HO_293000.out) (Kd.R_typed HO_300001.out) (by decide) hg); have n3_ := Aside0.mk (Kd.R_after (v := (.slice (some ⟨go57, 0, none⟩) x300001_2.length co65)) (v1 := (.slice (some ⟨go57, 0, none⟩) x300001_2.length co65)) (ok := (fun k_ => some k_ ≠ (u285001 : Value).ownBlock)) (by (with_reducible repeat (first | apply Kd.R_alloc | apply Kd.R_drewN | apply Kd.R_drew)); exact HO_293001.out) hg (.inl rfl)); have n4_ := Aside0.mk (Kd.R_over' (v := (.slice (some ⟨go57, 0, none⟩) x300001_2.length co65)) (by (with_reducible repeat (first | apply Kd.R_alloc | apply Kd.R_drewN | apply Kd.R_drew)); exact HO_300000.out) (Kd.R_typed HO_300001.out) (by decide) hg); have n5_ := Aside0.mk (hp_); have n6_ := Aside0.mk (blk_grown (g := gb274) (o := .cells #[.slice A0_0 l0_0.length c0_0, .slice A0_1 l0_1.length c0_1] 26 (0, 0)) (by (with_reducible repeat (first | refine blk_drewN ?_ _ | refine blk_drew ?_ | refine blk_alloc ?_ _)); exact BK274.out) hg (Kd.R_ne HO_300001.out BK274.out (by decide))); have n7_ := Aside0.mk (blk_grown (g := gb284) (o := .cells #[.slice Ao15 t277.length co15, u285001] 26 (0, 0)) (by (with_reducible repeat (first | refine blk_drewN ?_ _ | refine blk_drew ?_ | refine blk_alloc ?_ _)); exact BK284.out) hg (Kd.R_ne HO_300001.out BK284.out (by decide))); have n8_ := Aside0.mk (blk_grown (g := gb292) (o := .cells #[.slice Ao22 t285.length co22, u293001] 26 (0, 0)) (by (with_reducible repeat (first | refine blk_drewN ?_ _ | refine blk_drew ?_ | refine blk_alloc ?_ _)); exact BK292.out) hg (Kd.R_ne HO_300001.out BK292.out (by decide))); have n9_ := Aside0.mk (blk_grown (g := gb299) (o := .cells #[.slice Ao30 t293.length co30, .slice (some ⟨go57, 0, none⟩) x300001_2.length co65] 26 (0, 0)) (by (with_reducible repeat (first | refine blk_drewN ?_ _ | refine blk_drew ?_ | refine blk_alloc ?_ _)); exact BK299.out) hg (Kd.R_ne HO_300001.out BK299.out (by decide))); have n10_ := Aside0.mk ((by rw [hw]; exact below_set (HB.out) GB57.out : Below w.heap.size w w67)); clear HO_285000; clear HO_285001; clear HO_293000; clear HO_293001; clear HO_300000; clear HO_300001; clear BK274; clear BK284; clear BK292; clear BK299; clear HB; have HO_285000 := n0_; have HO_285001 := n1_; have HO_293000 := n2_; have HO_293001 := n3_; have HO_300000 := n4_; have HO_300001 := n5_; have BK274 := n6_; have BK284 := n7_; have BK292 := n8_; have BK299 := n9_; have HB := n10_; clear n0_ n1_ n2_ n3_ n4_ n5_ n6_ n7_ n8_ n9_ n10_; clear hg hw hp_; have hnb68 := NB274_284.out; have hnc68 := NB284_274.out; have hnb69 := NB274_292.out; have hnc69 := NB292_274.out; have hcz70_0 : w67.cell? ⟨gb274, 0, none⟩ = some (.slice A0_0 l0_0.length c0_0) := (blk_cell BK274.out 0).trans rfl; have hcz70_1 : w67.cell? ⟨gb274, 1, none⟩ = some (.slice A0_1 l0_1.length c0_1) := (blk_cell BK274.out 1).trans rfl; have hfz70_0 := blk_frozen BK274.out 0; have hfz70_1 := blk_frozen BK274.out 1; have p305 : 0 ≤ (x48_2 : Int) := of_decide_eq_true (by first | (with_reducible assumption) | assumption); have q305 : x48_2 < (l0_1.length : Int) := of_decide_eq_true (by first | (with_reducible assumption) | assumption); obtain ⟨ad305, e305, hx305_0⟩ := Kd.at_int HR0_1.out x48_2 p305 q305; cases e305; replace hx305_0 := (HB.out.cell (World.block_lt_of_cell? w _ hx305_0)).trans hx305_0; replace p305 := eq_true p305; replace q305 := eq_true q305; have hcz71_0 : w67.cell? ⟨gb299, 0, none⟩ = some (.slice Ao30 t293.length co30) := (blk_cell BK299.out 0).trans rfl; have hcz71_1 : w67.cell? ⟨gb299, 1, none⟩ = some (.slice (some ⟨go57, 0, none⟩) x300001_2.length co65) := (blk_cell BK299.out 1).trans rfl; have hfz71_0 := blk_frozen BK299.out 0; have hfz71_1 := blk_frozen BK299.out 1; have p306 : 0 ≤ (x48_2 : Int) := of_decide_eq_true (by first | (with_reducible assumption) | assumption); have q306 : x48_2 < (y304.length : Int) := (by have h_ : (x48_2 : Int) < ((x300001_2.length : Int) : Int) := of_decide_eq_true (by first | (with_reducible assumption) | assumption); first | (have e_ := (Kd.R_reads' HO_300001.out).1; omega) | simpa only [Ny304.out, List.length_set] using h_); have ql306 : ((x48_2 : Int) < ((x300001_2.length : Int) : Int)) = True := eq_true (of_decide_eq_true (by first | (with_reducible assumption) | assumption)); obtain ⟨ad306, e306, hx306_0⟩ := Kd.at_int (Kd.R_reads' HO_300001.out).2.2 x48_2 p306 q306; obtain rfl : (⟨go57, 0, none⟩ : Addr) = ad306 := (by injection e306); (first | simp only [add_plain] at hx306_0 | simp only [add_at] at hx306_0 | simp only [Addr.add, Nat.zero_add] at hx306_0 | skip); replace p306 := eq_true p306; replace q306 := eq_true q306)) | try go_wp2_with (first | ((with_reducible refine gate_store (t := 27) (p := 57) rfl ?_); refine store_event (t := 27) (p := 57) (v := ?vo_w67) (w1 := (wr.setCell ⟨go57, (x48_2 : Int).toNat, none⟩ (.int .i64 (wrap64 ((rd x300001_2 x48_2) + 1))))) ?hg ?ho ?hn ?hr ?_; (case ho => rfl); (case hg => rfl); (case hn => rfl); (case hr => first | (go_simp; done) | (go_simp; rfl)); intro w67 hw; have hg : wr.grownBy w67 (some go57) := (by rw [hw]; exact HP66.2); have hp_ : Kd.R (Kd.int .i64) 27 w67 w.heap.size (fun k_ => some k_ ≠ (u285001 : Value).ownBlock ∧ some k_ ≠ (u293001 : Value).ownBlock) (.slice (some ⟨go57, 0, none⟩) x300001_2.length co65) y304 := (by rw [hw, Ny304.out]; exact HP66.1); clear HP66; have n0_ := Aside0.mk (Kd.R_over' (v := (.slice (some ⟨go57, 0, none⟩) x300001_2.length co65)) (by (with_reducible repeat (first | apply Kd.R_alloc | apply Kd.R_drewN | apply Kd.R_drew)); exact HO_285000.out) (Kd.R_typed HO_300001.out) (by decide) hg); have n1_ := Aside0.mk (Kd.R_after (v := (.slice (some ⟨go57, 0, none⟩) x300001_2.length co65)) (v1 := (.slice (some ⟨go57, 0, none⟩) x300001_2.length co65)) (ok := (fun k_ => some k_ ≠ (u293001 : Value).ownBlock)) (by (with_reducible repeat (first | apply Kd.R_alloc | apply Kd.R_drewN | apply Kd.R_drew)); exact HO_285001.out) hg (.inl rfl)); have n2_ := Aside0.mk (Kd.R_over' (v := (.slice (some ⟨go57, 0, none⟩) x300001_2.length co65)) (by (with_reducible repeat (first | apply Kd.R_alloc | apply Kd.R_drewN | apply Kd.R_drew)); exact HO_293000.out) (Kd.R_typed HO_300001.out) (by decide) hg); have n3_ := Aside0.mk (Kd.R_after (v := (.slice (some ⟨go57, 0, none⟩) x300001_2.length co65)) (v1 := (.slice (some ⟨go57, 0, none⟩) x300001_2.length co65)) (ok := (fun k_ => some k_ ≠ (u285001 : Value).ownBlock)) (by (with_reducible repeat (first | apply Kd.R_alloc | apply Kd.R_drewN | apply Kd.R_drew)); exact HO_293001.out) hg (.inl rfl)); have n4_ := Aside0.mk (Kd.R_over' (v := (.slice (some ⟨go57, 0, none⟩) x300001_2.length co65)) (by (with_reducible repeat (first | apply Kd.R_alloc | apply Kd.R_drewN | apply Kd.R_drew)); exact HO_300000.out) (Kd.R_typed HO_300001.out) (by decide) hg); have n5_ := Aside0.mk (hp_); have n6_ := Aside0.mk (blk_grown (g := gb274) (o := .cells #[.slice A0_0 l0_0.length c0_0, .slice A0_1 l0_1.length c0_1] 26 (0, 0)) (by (with_reducible repeat (first | refine blk_drewN ?_ _ | refine blk_drew ?_ | refine blk_alloc ?_ _)); exact BK274.out) hg (Kd.R_ne HO_300001.out BK274.out (by decide))); have n7_ := Aside0.mk (blk_grown (g := gb284) (o := .cells #[.slice Ao15 t277.length co15, u285001] 26 (0, 0)) (by (with_reducible repeat (first | refine blk_drewN ?_ _ | refine blk_drew ?_ | refine blk_alloc ?_ _)); exact BK284.out) hg (Kd.R_ne HO_300001.out BK284.out (by decide))); have n8_ := Aside0.mk (blk_grown (g := gb292) (o := .cells #[.slice Ao22 t285.length co22, u293001] 26 (0, 0)) (by (with_reducible repeat (first | refine blk_drewN ?_ _ | refine blk_drew ?_ | refine blk_alloc ?_ _)); exact BK292.out) hg (Kd.R_ne HO_300001.out BK292.out (by decide))); have n9_ := Aside0.mk (blk_grown (g := gb299) (o := .cells #[.slice Ao30 t293.length co30, .slice (some ⟨go57, 0, none⟩) x300001_2.length co65] 26 (0, 0)) (by (with_reducible repeat (first | refine blk_drewN ?_ _ | refine blk_drew ?_ | refine blk_alloc ?_ _)); exact BK299.out) hg (Kd.R_ne HO_300001.out BK299.out (by decide))); have n10_ := Aside0.mk ((by rw [hw]; exact below_set (HB.out) GB57.out : Below w.heap.size w w67)); clear HO_285000; clear HO_285001; clear HO_293000; clear HO_293001; clear HO_300000; clear HO_300001; clear BK274; clear BK284; clear BK292; clear BK299; clear HB; have HO_285000 := n0_; have HO_285001 := n1_; have HO_293000 := n2_; have HO_293001 := n3_; have HO_300000 := n4_; have HO_300001 := n5_; have BK274 := n6_; have BK284 := n7_; have BK292 := n8_; have BK299 := n9_; have HB := n10_; clear n0_ n1_ n2_ n3_ n4_ n5_ n6_ n7_ n8_ n9_ n10_; clear hg hw hp_; have hnb68 := NB274_284.out; have hnc68 := NB284_274.out; have hnb69 := NB274_292.out; have hnc69 := NB292_274.out; have hcz70_0 : w67.cell? ⟨gb274, 0, none⟩ = some (.slice A0_0 l0_0.length c0_0) := (blk_cell BK274.out 0).trans rfl; have hcz70_1 : w67.cell? ⟨gb274, 1, none⟩ = some (.slice A0_1 l0_1.length c0_1) := (blk_cell BK274.out 1).trans rfl; have hfz70_0 := blk_frozen BK274.out 0; have hfz70_1 := blk_frozen BK274.out 1; have p305 : 0 ≤ (x48_2 : Int) := of_decide_eq_true (by first | (with_reducible assumption) | assumption); have q305 : x48_2 < (l0_1.length : Int) := of_decide_eq_true (by first | (with_reducible assumption) | assumption); obtain ⟨ad305, e305, hx305_0⟩ := Kd.at_int HR0_1.out x48_2 p305 q305; cases e305; replace hx305_0 := (HB.out.cell (World.block_lt_of_cell? w _ hx305_0)).trans hx305_0; replace p305 := eq_true p305; replace q305 := eq_true q305; have hcz71_0 : w67.cell? ⟨gb299, 0, none⟩ = some (.slice Ao30 t293.length co30) := (blk_cell BK299.out 0).trans rfl; have hcz71_1 : w67.cell? ⟨gb299, 1, none⟩ = some (.slice (some ⟨go57, 0, none⟩) x300001_2.length co65) := (blk_cell BK299.out 1).trans rfl; have hfz71_0 := blk_frozen BK299.out 0; have hfz71_1 := blk_frozen BK299.out 1; have p306 : 0 ≤ (x48_2 : Int) := of_decide_eq_true (by first | (with_reducible assumption) | assumption); have q306 : x48_2 < (y304.length : Int) := (by have h_ : (x48_2 : Int) < ((x300001_2.length : Int) : Int) := of_decide_eq_true (by first | (with_reducible assumption) | assumption); first | (have e_ := (Kd.R_reads' HO_300001.out).1; omega) | simpa only [Ny304.out, List.length_set] using h_); have ql306 : ((x48_2 : Int) < ((x300001_2.length : Int) : Int)) = True := eq_true (of_decide_eq_true (by first | (with_reducible assumption) | assumption)); obtain ⟨ad306, e306, hx306_0⟩ := Kd.at_int (Kd.R_reads' HO_300001.out).2.2 x48_2 p306 q306; obtain rfl : (⟨go57, 0, none⟩ : Addr) = ad306 := (by injection e306); (first | simp only [add_plain] at hx306_0 | simp only [add_at] at hx306_0 | simp only [Addr.add, Nat.zero_add] at hx306_0 | skip); replace p306 := eq_true p306; replace q306 := eq_true q306)))
              go_roundg k2
              case measure => have := HJ7.out; have := HK2.out; omega
              case rel => exact ⟨(wrap64 (x48_2 + 1)), (x285001_2), (x293001_2), (y304), (u285001), (u293001), (.slice (some ⟨go57, 0, none⟩) x300001_2.length co65), (by first | rfl | (simp; done) | (simp [*]; done)), H', ⟨by have := HJ7.out; have := HK2.out; omega⟩, ⟨by (with_reducible repeat (first | apply Kd.R_alloc | apply Kd.R_drewN | apply Kd.R_drew)); exact HO_285000.out⟩, ⟨by (with_reducible repeat (first | apply Kd.R_alloc | apply Kd.R_drewN | apply Kd.R_drew)); exact HO_285001.out⟩, ⟨by (with_reducible repeat (first | apply Kd.R_alloc | apply Kd.R_drewN | apply Kd.R_drew)); exact HO_293000.out⟩, ⟨by (with_reducible repeat (first | apply Kd.R_alloc | apply Kd.R_drewN | apply Kd.R_drew)); exact HO_293001.out⟩, ⟨by (with_reducible repeat (first | apply Kd.R_alloc | apply Kd.R_drewN | apply Kd.R_drew)); exact HO_300000.out⟩, ⟨by (with_reducible repeat (first | apply Kd.R_alloc | apply Kd.R_drewN | apply Kd.R_drew)); exact HO_300001.out⟩, ⟨by (with_reducible repeat (first | refine blk_drewN ?_ _ | refine blk_drew ?_ | refine blk_alloc ?_ _)); exact BK274.out⟩, ⟨by (with_reducible repeat (first | refine blk_drewN ?_ _ | refine blk_drew ?_ | refine blk_alloc ?_ _)); exact BK284.out⟩, ⟨by (with_reducible repeat (first | refine blk_drewN ?_ _ | refine blk_drew ?_ | refine blk_alloc ?_ _)); exact BK292.out⟩, ⟨by (with_reducible repeat (first | refine blk_drewN ?_ _ | refine blk_drew ?_ | refine blk_alloc ?_ _)); exact BK299.out⟩, ⟨by repeat (first | (with_reducible first | exact HB.out | apply below_alloc | apply pw_below_drewN | apply below_drew1 | refine below_set ?_ GE274.out | refine below_set ?_ GE284.out | refine below_set ?_ GE292.out | refine below_set ?_ GE299.out) | exact HB.out)⟩⟩
            ·rw [if_neg c60] at H
             exact absurd H (by simp)
           ·rw [if_neg c59] at H
            exact absurd H (by simp)
         ·rw [if_neg c56] at H
          exact absurd H (by simp)
        ·rw [if_neg c55] at H
         exact absurd H (by simp)
       ·rw [if_neg c54] at H
        have c54b0 : decide (x48_2 < (t296.length : Int)) = false := decide_eq_false c54
        clear c54
        replace H := Option.bind_eq_some_iff.mp H
        obtain ⟨t307, A720, H⟩ := H
        replace H : (if t307 = true then (if t283 = 0 then ((athanorref03_Size.f k2 l0_0).bind fun t309 => (if (x285001_2.length : Int) = t309 then ((shape_Shape_Equal.f k2 t277 l0_0).bind fun t310 => (athanorlaw04_TensorMakes.j2 k2 a1 t291 (!t310) l0_0 l0_1 t277 x285001_2 t285 x293001_2)) else (athanorlaw04_TensorMakes.j2 k2 a1 t291 true l0_0 l0_1 t277 x285001_2 t285 x293001_2))) else (athanorlaw04_TensorMakes.j2 k2 a1 t291 true l0_0 l0_1 t277 x285001_2 t285 x293001_2)) else (if t283 = 20 then (if t291 = 20 then (if (x285001_2.length : Int) = 0 then ((athanorlaw04_awake.f k2).bind fun t308 => (some t308)) else (none)) else (none)) else (none))) = some r := H
        have A72 := Aside0.mk A720
        clear A720
        by_cases c73 : t307 = true
        ·subst c73
         have H1 : (if t283 = 0 then ((athanorref03_Size.f k2 l0_0).bind fun t309 => (if (x285001_2.length : Int) = t309 then ((shape_Shape_Equal.f k2 t277 l0_0).bind fun t310 => (athanorlaw04_TensorMakes.j2 k2 a1 t291 (!t310) l0_0 l0_1 t277 x285001_2 t285 x293001_2)) else (athanorlaw04_TensorMakes.j2 k2 a1 t291 true l0_0 l0_1 t277 x285001_2 t285 x293001_2))) else (athanorlaw04_TensorMakes.j2 k2 a1 t291 true l0_0 l0_1 t277 x285001_2 t285 x293001_2)) = some r := by rw [if_pos rfl] at H; exact H
         clear H
         have H := H1
         clear H1
         have HC74 := Aside0.mk H
         clear H
         have hnb75 := NB274_284.out
         have hnc75 := NB284_274.out
         have hnb76 := NB274_292.out
         have hnc76 := NB292_274.out
         have hnb77 := NB274_299.out
         have hnc77 := NB299_274.out
         have hcz78_0 : wr.cell? ⟨gb274, 0, none⟩ = some (.slice A0_0 l0_0.length c0_0) := (blk_cell BK274.out 0).trans rfl
         have hcz78_1 : wr.cell? ⟨gb274, 1, none⟩ = some (.slice A0_1 l0_1.length c0_1) := (blk_cell BK274.out 1).trans rfl
         have hfz78_0 := blk_frozen BK274.out 0
         have hfz78_1 := blk_frozen BK274.out 1
         go_upto_region 17 with (first | ((with_reducible refine gate_callee (f := 16) rfl ?_); refine goesL_ (some 80) rfl rfl Try.func16 (by kernel_rfl) rfl #[.slice A0_0 l0_0.length c0_0] rfl (by (try simp only [List.map_toArray, List.map_cons, List.map_nil]); first | done | rfl | (simp only [List.length_drop, List.length_take]; rfl)) ?_; (with_reducible refine (athanorref03_Right.calls k2 _ _ l0_0 true _ ?side1 ?side2 A72.out).mono ?_); (case side1 => repeat (first | exact (Kd.C_below HR0_0.out HB.out) | (with_reducible refine Kd.C_alloc ?_ _) | (with_reducible refine Kd.C_drewN ?_ _) | (with_reducible refine Kd.C_drew ?_))); (case side2 => exact HC0_0.out); rintro e w' ⟨rfl, ⟨nd, rfl⟩⟩; refine ⟨_, rfl, ?_⟩; (try first | exact ⟨rfl, _, World.drewN_drewN _ _ _⟩ | exact ⟨rfl, _, Eq.trans (World.drewN_drewN _ _ _) (congrArg (World.drewN _) (Nat.add_assoc _ _ _))⟩)))
         (try simp only [Act.put, List.setIfInBounds_toArray, List.set_cons_zero, List.set_cons_succ])
         go_cut [115] (fun v115 wc => ∃ (kq : Nat) (x115_73 : Bool), v115 = .bool x115_73 ∧ Aside0 (athanorlaw04_TensorMakes.j2 kq a1 t291 x115_73 l0_0 l0_1 t277 x285001_2 t285 x293001_2 = some r) ∧ Aside0 (kq ≤ k2) ∧ Aside0 (Kd.R (Kd.int .i64) 3 wc w.heap.size (fun k_ => some k_ ≠ ((.slice Ao22 t285.length co22) : Value).ownBlock ∧ some k_ ≠ ((.slice Ao30 t293.length co30) : Value).ownBlock) (.slice Ao15 t277.length co15) t277) ∧ Aside0 (Kd.R (Kd.int .i64) 27 wc w.heap.size (fun k_ => some k_ ≠ (u293001 : Value).ownBlock ∧ some k_ ≠ (u300001 : Value).ownBlock) u285001 x285001_2) ∧ Aside0 (Kd.R (Kd.int .i64) 3 wc w.heap.size (fun k_ => some k_ ≠ ((.slice Ao15 t277.length co15) : Value).ownBlock ∧ some k_ ≠ ((.slice Ao30 t293.length co30) : Value).ownBlock) (.slice Ao22 t285.length co22) t285) ∧ Aside0 (Kd.R (Kd.int .i64) 27 wc w.heap.size (fun k_ => some k_ ≠ (u285001 : Value).ownBlock ∧ some k_ ≠ (u300001 : Value).ownBlock) u293001 x293001_2) ∧ Aside0 (Kd.R (Kd.int .i64) 3 wc w.heap.size (fun k_ => some k_ ≠ ((.slice Ao15 t277.length co15) : Value).ownBlock ∧ some k_ ≠ ((.slice Ao22 t285.length co22) : Value).ownBlock) (.slice Ao30 t293.length co30) t293) ∧ Aside0 (Kd.R (Kd.int .i64) 27 wc w.heap.size (fun k_ => some k_ ≠ (u285001 : Value).ownBlock ∧ some k_ ≠ (u293001 : Value).ownBlock) u300001 x300001_2) ∧ Aside0 (wc.heap[gb274]? = some (.cells #[(.slice A0_0 l0_0.length c0_0), (.slice A0_1 l0_1.length c0_1)] 26 (0, 0))) ∧ Aside0 (wc.heap[gb284]? = some (.cells #[(.slice Ao15 t277.length co15), u285001] 26 (0, 0))) ∧ Aside0 (wc.heap[gb292]? = some (.cells #[(.slice Ao22 t285.length co22), u293001] 26 (0, 0))) ∧ Aside0 (wc.heap[gb299]? = some (.cells #[(.slice Ao30 t293.length co30), u300001] 26 (0, 0))) ∧ Aside0 (Below w.heap.size w wc))
         case first =>
          have H := HC74.out
          clear HC74
          by_cases c79 : t283 = 0
          ·rw [if_pos c79] at H
           have c79b0 : (t283 == 0) = true := beq_iff_eq.mpr c79
           have c79b1 : (t283 != 0) = false := bne_eq_false_iff_eq.mpr c79
           clear c79
           (first | rw [c79b0] | (simp only [i64_w, i32_w]; rw [c79b0]) | skip)
           replace H := Option.bind_eq_some_iff.mp H
           obtain ⟨t309, A800, H⟩ := H
           replace H : (if (x285001_2.length : Int) = t309 then ((shape_Shape_Equal.f k2 t277 l0_0).bind fun t310 => (athanorlaw04_TensorMakes.j2 k2 a1 t291 (!t310) l0_0 l0_1 t277 x285001_2 t285 x293001_2)) else (athanorlaw04_TensorMakes.j2 k2 a1 t291 true l0_0 l0_1 t277 x285001_2 t285 x293001_2)) = some r := H
           have A80 := Aside0.mk A800
           clear A800
           by_cases c81 : (x285001_2.length : Int) = t309
           ·rw [if_pos c81] at H
            have c81b0 : ((x285001_2.length : Int) == t309) = true := beq_iff_eq.mpr c81
            have c81b1 : ((x285001_2.length : Int) != t309) = false := bne_eq_false_iff_eq.mpr c81
            clear c81
            replace H := Option.bind_eq_some_iff.mp H
            obtain ⟨t310, A820, H⟩ := H
            replace H : (athanorlaw04_TensorMakes.j2 k2 a1 t291 (!t310) l0_0 l0_1 t277 x285001_2 t285 x293001_2) = some r := H
            have A82 := Aside0.mk A820
            clear A820
            as_aux_lemma =>
             have H' := Aside0.mk H
             clear H
             have hnb83 := NB284_274.out
             have hnc83 := NB274_284.out
             have hnb84 := NB284_292.out
             have hnc84 := NB292_284.out
             have hnb85 := NB284_299.out
             have hnc85 := NB299_284.out
             have hcz86_0 : wr.cell? ⟨gb284, 0, none⟩ = some (.slice Ao15 t277.length co15) := (blk_cell BK284.out 0).trans rfl
             have hcz86_1 : wr.cell? ⟨gb284, 1, none⟩ = some (u285001) := (blk_cell BK284.out 1).trans rfl
             have hfz86_0 := blk_frozen BK284.out 0
             have hfz86_1 := blk_frozen BK284.out 1
             obtain ⟨Ao87, co87, eo87⟩ := Kd.R_slice HO_285001.out
             subst eo87
             have hnb88 := NB274_292.out
             have hnc88 := NB292_274.out
             have hnb89 := NB274_299.out
             have hnc89 := NB299_274.out
             have hcz90_0 : wr.cell? ⟨gb274, 0, none⟩ = some (.slice A0_0 l0_0.length c0_0) := (blk_cell BK274.out 0).trans rfl
             have hcz90_1 : wr.cell? ⟨gb274, 1, none⟩ = some (.slice A0_1 l0_1.length c0_1) := (blk_cell BK274.out 1).trans rfl
             have hfz90_0 := blk_frozen BK274.out 0
             have hfz90_1 := blk_frozen BK274.out 1
             iterate 7 (first | go_quiet (first | (go_at_call 17; (with_reducible refine (athanorref03_Size.calls k2 _ _ l0_0 t309 _ ?side1 ?side2 A80.out).mono ?_); (case side1 => repeat (first | exact (Kd.C_below HR0_0.out HB.out) | (with_reducible refine Kd.C_alloc ?_ _) | (with_reducible refine Kd.C_drewN ?_ _) | (with_reducible refine Kd.C_drew ?_))); (case side2 => exact HC0_0.out); rintro e w' ⟨rfl, ⟨nd, rfl⟩⟩; (try first | exact ⟨rfl, _, World.drewN_drewN _ _ _⟩ | exact ⟨rfl, _, Eq.trans (World.drewN_drewN _ _ _) (congrArg (World.drewN _) (Nat.add_assoc _ _ _))⟩)) | (go_at_call 18; (with_reducible refine (shape_Shape_Equal.calls k2 _ _ t277 _ _ l0_0 t310 _ ?side1 ?side2 ?side3 ?side4 A82.out).mono ?_); (case side1 => repeat (first | exact (Kd.R_reads' HO_285000.out).2.2 | (with_reducible refine Kd.C_alloc ?_ _) | (with_reducible refine Kd.C_drewN ?_ _) | (with_reducible refine Kd.C_drew ?_))); (case side2 => exact (Kd.R_reads' HO_285000.out).2.1); (case side3 => repeat (first | exact (Kd.C_below HR0_0.out (by repeat (first | (with_reducible first | exact HB.out | apply below_alloc | apply pw_below_drewN | apply below_drew1 | refine below_set ?_ GE274.out | refine below_set ?_ GE284.out | refine below_set ?_ GE292.out | refine below_set ?_ GE299.out) | exact HB.out))) | (with_reducible refine Kd.C_alloc ?_ _) | (with_reducible refine Kd.C_drewN ?_ _) | (with_reducible refine Kd.C_drew ?_))); (case side4 => exact HC0_0.out); rintro e w' ⟨rfl, ⟨nd, rfl⟩⟩; (try first | exact ⟨rfl, _, World.drewN_drewN _ _ _⟩ | exact ⟨rfl, _, Eq.trans (World.drewN_drewN _ _ _) (congrArg (World.drewN _) (Nat.add_assoc _ _ _))⟩))) | try go_wp2_with (first | (go_at_call 17; (with_reducible refine (athanorref03_Size.calls k2 _ _ l0_0 t309 _ ?side1 ?side2 A80.out).mono ?_); (case side1 => repeat (first | exact (Kd.C_below HR0_0.out HB.out) | (with_reducible refine Kd.C_alloc ?_ _) | (with_reducible refine Kd.C_drewN ?_ _) | (with_reducible refine Kd.C_drew ?_))); (case side2 => exact HC0_0.out); rintro e w' ⟨rfl, ⟨nd, rfl⟩⟩; (try first | exact ⟨rfl, _, World.drewN_drewN _ _ _⟩ | exact ⟨rfl, _, Eq.trans (World.drewN_drewN _ _ _) (congrArg (World.drewN _) (Nat.add_assoc _ _ _))⟩)) | (go_at_call 18; (with_reducible refine (shape_Shape_Equal.calls k2 _ _ t277 _ _ l0_0 t310 _ ?side1 ?side2 ?side3 ?side4 A82.out).mono ?_); (case side1 => repeat (first | exact (Kd.R_reads' HO_285000.out).2.2 | (with_reducible refine Kd.C_alloc ?_ _) | (with_reducible refine Kd.C_drewN ?_ _) | (with_reducible refine Kd.C_drew ?_))); (case side2 => exact (Kd.R_reads' HO_285000.out).2.1); (case side3 => repeat (first | exact (Kd.C_below HR0_0.out (by repeat (first | (with_reducible first | exact HB.out | apply below_alloc | apply pw_below_drewN | apply below_drew1 | refine below_set ?_ GE274.out | refine below_set ?_ GE284.out | refine below_set ?_ GE292.out | refine below_set ?_ GE299.out) | exact HB.out))) | (with_reducible refine Kd.C_alloc ?_ _) | (with_reducible refine Kd.C_drewN ?_ _) | (with_reducible refine Kd.C_drew ?_))); (case side4 => exact HC0_0.out); rintro e w' ⟨rfl, ⟨nd, rfl⟩⟩; (try first | exact ⟨rfl, _, World.drewN_drewN _ _ _⟩ | exact ⟨rfl, _, Eq.trans (World.drewN_drewN _ _ _) (congrArg (World.drewN _) (Nat.add_assoc _ _ _))⟩))))
             go_meet
             case rel => exact ⟨_, (!t310), (by first | rfl | (simp; done) | (simp [*]; done)), H', ⟨by have := HJ7.out; have := HK2.out; first | omega | exact Nat.le_refl _⟩, ⟨by (with_reducible repeat (first | apply Kd.R_alloc | apply Kd.R_drewN | apply Kd.R_drew)); exact HO_285000.out⟩, ⟨by (with_reducible repeat (first | apply Kd.R_alloc | apply Kd.R_drewN | apply Kd.R_drew)); exact HO_285001.out⟩, ⟨by (with_reducible repeat (first | apply Kd.R_alloc | apply Kd.R_drewN | apply Kd.R_drew)); exact HO_293000.out⟩, ⟨by (with_reducible repeat (first | apply Kd.R_alloc | apply Kd.R_drewN | apply Kd.R_drew)); exact HO_293001.out⟩, ⟨by (with_reducible repeat (first | apply Kd.R_alloc | apply Kd.R_drewN | apply Kd.R_drew)); exact HO_300000.out⟩, ⟨by (with_reducible repeat (first | apply Kd.R_alloc | apply Kd.R_drewN | apply Kd.R_drew)); exact HO_300001.out⟩, ⟨by (with_reducible repeat (first | refine blk_drewN ?_ _ | refine blk_drew ?_ | refine blk_alloc ?_ _)); exact BK274.out⟩, ⟨by (with_reducible repeat (first | refine blk_drewN ?_ _ | refine blk_drew ?_ | refine blk_alloc ?_ _)); exact BK284.out⟩, ⟨by (with_reducible repeat (first | refine blk_drewN ?_ _ | refine blk_drew ?_ | refine blk_alloc ?_ _)); exact BK292.out⟩, ⟨by (with_reducible repeat (first | refine blk_drewN ?_ _ | refine blk_drew ?_ | refine blk_alloc ?_ _)); exact BK299.out⟩, ⟨by repeat (first | (with_reducible first | exact HB.out | apply below_alloc | apply pw_below_drewN | apply below_drew1 | refine below_set ?_ GE274.out | refine below_set ?_ GE284.out | refine below_set ?_ GE292.out | refine below_set ?_ GE299.out) | exact HB.out)⟩⟩
           ·rw [if_neg c81] at H
            have c81b0 : ((x285001_2.length : Int) == t309) = false := beq_eq_false_iff_ne.mpr c81
            have c81b1 : ((x285001_2.length : Int) != t309) = true := bne_iff_ne.mpr c81
            as_aux_lemma =>
             have H' := Aside0.mk H
             clear H
             have hnb91 := NB284_274.out
             have hnc91 := NB274_284.out
             have hnb92 := NB284_292.out
             have hnc92 := NB292_284.out
             have hnb93 := NB284_299.out
             have hnc93 := NB299_284.out
             have hcz94_0 : wr.cell? ⟨gb284, 0, none⟩ = some (.slice Ao15 t277.length co15) := (blk_cell BK284.out 0).trans rfl
             have hcz94_1 : wr.cell? ⟨gb284, 1, none⟩ = some (u285001) := (blk_cell BK284.out 1).trans rfl
             have hfz94_0 := blk_frozen BK284.out 0
             have hfz94_1 := blk_frozen BK284.out 1
             obtain ⟨Ao95, co95, eo95⟩ := Kd.R_slice HO_285001.out
             subst eo95
             have hnb96 := NB274_292.out
             have hnc96 := NB292_274.out
             have hnb97 := NB274_299.out
             have hnc97 := NB299_274.out
             have hcz98_0 : wr.cell? ⟨gb274, 0, none⟩ = some (.slice A0_0 l0_0.length c0_0) := (blk_cell BK274.out 0).trans rfl
             have hcz98_1 : wr.cell? ⟨gb274, 1, none⟩ = some (.slice A0_1 l0_1.length c0_1) := (blk_cell BK274.out 1).trans rfl
             have hfz98_0 := blk_frozen BK274.out 0
             have hfz98_1 := blk_frozen BK274.out 1
             iterate 7 (first | go_quiet (first | (go_at_call 17; (with_reducible refine (athanorref03_Size.calls k2 _ _ l0_0 t309 _ ?side1 ?side2 A80.out).mono ?_); (case side1 => repeat (first | exact (Kd.C_below HR0_0.out HB.out) | (with_reducible refine Kd.C_alloc ?_ _) | (with_reducible refine Kd.C_drewN ?_ _) | (with_reducible refine Kd.C_drew ?_))); (case side2 => exact HC0_0.out); rintro e w' ⟨rfl, ⟨nd, rfl⟩⟩; (try first | exact ⟨rfl, _, World.drewN_drewN _ _ _⟩ | exact ⟨rfl, _, Eq.trans (World.drewN_drewN _ _ _) (congrArg (World.drewN _) (Nat.add_assoc _ _ _))⟩))) | try go_wp2_with (first | (go_at_call 17; (with_reducible refine (athanorref03_Size.calls k2 _ _ l0_0 t309 _ ?side1 ?side2 A80.out).mono ?_); (case side1 => repeat (first | exact (Kd.C_below HR0_0.out HB.out) | (with_reducible refine Kd.C_alloc ?_ _) | (with_reducible refine Kd.C_drewN ?_ _) | (with_reducible refine Kd.C_drew ?_))); (case side2 => exact HC0_0.out); rintro e w' ⟨rfl, ⟨nd, rfl⟩⟩; (try first | exact ⟨rfl, _, World.drewN_drewN _ _ _⟩ | exact ⟨rfl, _, Eq.trans (World.drewN_drewN _ _ _) (congrArg (World.drewN _) (Nat.add_assoc _ _ _))⟩))))
             go_meet
             case rel => exact ⟨_, (true), (by first | rfl | (simp; done) | (simp [*]; done)), H', ⟨by have := HJ7.out; have := HK2.out; first | omega | exact Nat.le_refl _⟩, ⟨by (with_reducible repeat (first | apply Kd.R_alloc | apply Kd.R_drewN | apply Kd.R_drew)); exact HO_285000.out⟩, ⟨by (with_reducible repeat (first | apply Kd.R_alloc | apply Kd.R_drewN | apply Kd.R_drew)); exact HO_285001.out⟩, ⟨by (with_reducible repeat (first | apply Kd.R_alloc | apply Kd.R_drewN | apply Kd.R_drew)); exact HO_293000.out⟩, ⟨by (with_reducible repeat (first | apply Kd.R_alloc | apply Kd.R_drewN | apply Kd.R_drew)); exact HO_293001.out⟩, ⟨by (with_reducible repeat (first | apply Kd.R_alloc | apply Kd.R_drewN | apply Kd.R_drew)); exact HO_300000.out⟩, ⟨by (with_reducible repeat (first | apply Kd.R_alloc | apply Kd.R_drewN | apply Kd.R_drew)); exact HO_300001.out⟩, ⟨by (with_reducible repeat (first | refine blk_drewN ?_ _ | refine blk_drew ?_ | refine blk_alloc ?_ _)); exact BK274.out⟩, ⟨by (with_reducible repeat (first | refine blk_drewN ?_ _ | refine blk_drew ?_ | refine blk_alloc ?_ _)); exact BK284.out⟩, ⟨by (with_reducible repeat (first | refine blk_drewN ?_ _ | refine blk_drew ?_ | refine blk_alloc ?_ _)); exact BK292.out⟩, ⟨by (with_reducible repeat (first | refine blk_drewN ?_ _ | refine blk_drew ?_ | refine blk_alloc ?_ _)); exact BK299.out⟩, ⟨by repeat (first | (with_reducible first | exact HB.out | apply below_alloc | apply pw_below_drewN | apply below_drew1 | refine below_set ?_ GE274.out | refine below_set ?_ GE284.out | refine below_set ?_ GE292.out | refine below_set ?_ GE299.out) | exact HB.out)⟩⟩
          ·rw [if_neg c79] at H
           have c79b0 : (t283 == 0) = false := beq_eq_false_iff_ne.mpr c79
           have c79b1 : (t283 != 0) = true := bne_iff_ne.mpr c79
           (first | rw [c79b0] | (simp only [i64_w, i32_w]; rw [c79b0]) | skip)
           as_aux_lemma =>
            have H' := Aside0.mk H
            clear H
            iterate 7 (first | go_quiet (fail) | try go_wp2)
            go_meet
            case rel => exact ⟨_, (true), (by first | rfl | (simp; done) | (simp [*]; done)), H', ⟨by have := HJ7.out; have := HK2.out; first | omega | exact Nat.le_refl _⟩, ⟨by (with_reducible repeat (first | apply Kd.R_alloc | apply Kd.R_drewN | apply Kd.R_drew)); exact HO_285000.out⟩, ⟨by (with_reducible repeat (first | apply Kd.R_alloc | apply Kd.R_drewN | apply Kd.R_drew)); exact HO_285001.out⟩, ⟨by (with_reducible repeat (first | apply Kd.R_alloc | apply Kd.R_drewN | apply Kd.R_drew)); exact HO_293000.out⟩, ⟨by (with_reducible repeat (first | apply Kd.R_alloc | apply Kd.R_drewN | apply Kd.R_drew)); exact HO_293001.out⟩, ⟨by (with_reducible repeat (first | apply Kd.R_alloc | apply Kd.R_drewN | apply Kd.R_drew)); exact HO_300000.out⟩, ⟨by (with_reducible repeat (first | apply Kd.R_alloc | apply Kd.R_drewN | apply Kd.R_drew)); exact HO_300001.out⟩, ⟨by (with_reducible repeat (first | refine blk_drewN ?_ _ | refine blk_drew ?_ | refine blk_alloc ?_ _)); exact BK274.out⟩, ⟨by (with_reducible repeat (first | refine blk_drewN ?_ _ | refine blk_drew ?_ | refine blk_alloc ?_ _)); exact BK284.out⟩, ⟨by (with_reducible repeat (first | refine blk_drewN ?_ _ | refine blk_drew ?_ | refine blk_alloc ?_ _)); exact BK292.out⟩, ⟨by (with_reducible repeat (first | refine blk_drewN ?_ _ | refine blk_drew ?_ | refine blk_alloc ?_ _)); exact BK299.out⟩, ⟨by repeat (first | (with_reducible first | exact HB.out | apply below_alloc | apply pw_below_drewN | apply below_drew1 | refine below_set ?_ GE274.out | refine below_set ?_ GE284.out | refine below_set ?_ GE292.out | refine below_set ?_ GE299.out) | exact HB.out)⟩⟩
         case rest =>
          clear HC74
          (try clear c1); (try clear c2); (try clear p2); (try clear c3); (try clear p3); (try clear q3); (try clear hx3); (try clear c4); (try clear c5); (try clear p5); (try clear q5); (try clear hx5); (try clear hf5); (try clear c6); (try clear p6); (try clear c7); (try clear c8); (try clear c9); (try clear c10); (try clear c11); (try clear c12); (try clear c13); (try clear c14); (try clear c15); (try clear c16); (try clear c23); (try clear c24); (try clear p30); (try clear q30); (try clear hx30); (try clear c31); (try clear c32); (try clear c33); (try clear c38); (try clear c38b0); (try clear c38b1); (try clear c38b2); (try clear c49); (try clear c50); (try clear c51); (try clear c52); (try clear c54); (try clear c54b0); (try clear c55); (try clear c55b0); (try clear c56); (try clear c56b0); (try clear p57); (try clear q57); (try clear hx57); (try clear hf57); (try clear c58); (try clear c58b0); (try clear c59); (try clear c59b0); (try clear c60); (try clear c60b0); (try clear c60b1); (try clear c61); (try clear c62); (try clear c63); (try clear p64); (try clear c68); (try clear c69); (try clear c73); (try clear c75); (try clear c76); (try clear c77); (try clear c79); (try clear c79b0); (try clear c79b1); (try clear c81); (try clear c81b0); (try clear c81b1); (try clear c83); (try clear c84); (try clear c85); (try clear c88); (try clear c89); (try clear c91); (try clear c92); (try clear c93); (try clear c96); (try clear c97); (try clear hcz10_0); (try clear hcz10_1); (try clear hcz12_0); (try clear hcz12_1); (try clear hcz17_0); (try clear hcz17_1); (try clear hcz19_0); (try clear hcz19_1); (try clear hcz25_0); (try clear hcz25_1); (try clear hcz27_0); (try clear hcz27_1); (try clear hcz34_0); (try clear hcz34_1); (try clear hcz53_0); (try clear hcz53_1); (try clear hcz64_0); (try clear hcz64_1); (try clear hcz70_0); (try clear hcz70_1); (try clear hcz71_0); (try clear hcz71_1); (try clear hcz78_0); (try clear hcz78_1); (try clear hcz86_0); (try clear hcz86_1); (try clear hcz90_0); (try clear hcz90_1); (try clear hcz94_0); (try clear hcz94_1); (try clear hcz98_0); (try clear hcz98_1); (try clear hfz10_0); (try clear hfz10_1); (try clear hfz12_0); (try clear hfz12_1); (try clear hfz17_0); (try clear hfz17_1); (try clear hfz19_0); (try clear hfz19_1); (try clear hfz25_0); (try clear hfz25_1); (try clear hfz27_0); (try clear hfz27_1); (try clear hfz34_0); (try clear hfz34_1); (try clear hfz53_0); (try clear hfz53_1); (try clear hfz64_0); (try clear hfz64_1); (try clear hfz70_0); (try clear hfz70_1); (try clear hfz71_0); (try clear hfz71_1); (try clear hfz78_0); (try clear hfz78_1); (try clear hfz86_0); (try clear hfz86_1); (try clear hfz90_0); (try clear hfz90_1); (try clear hfz94_0); (try clear hfz94_1); (try clear hfz98_0); (try clear hfz98_1); (try clear hx303_0); (try clear hx305_0); (try clear hx306_0); (try clear hx57_0); (try clear p2); (try clear p303); (try clear p305); (try clear p306); (try clear p57); (try clear q303); (try clear q305); (try clear q306); (try clear q57)
          obtain ⟨kq, x115_73, rfl, HA, HJ73, HO_285000, HO_285001, HO_293000, HO_293001, HO_300000, HO_300001, BK274, BK284, BK292, BK299, HB⟩ := hcut
          cases kq with
          | zero => exact absurd HA.out (by simp [athanorlaw04_TensorMakes.j2])
          | succ kj73 =>
           have H := HA.out
           clear HA
           simp only [athanorlaw04_TensorMakes.j2] at H
           by_cases c99 : x115_73 = true
           ·subst c99
            have H1 : (none) = some r := by rw [if_pos rfl] at H; exact H
            clear H
            have H := H1
            clear H1
            exact absurd H (by simp)
           ·replace c99 := Bool.eq_false_iff.mpr c99
            subst c99
            have H1 : (athanorlaw04_TensorMakes.l1 kj73 a1 t291 x285001_2 (x285001_2.length : Int) 0 l0_0 l0_1 t285 x293001_2) = some r := by rw [if_neg (show ¬ (false = true) by decide)] at H; exact H
            clear H
            have H := H1
            clear H1
            have H' := Aside0.mk H
            clear H
            have hnb100 := NB284_274.out
            have hnc100 := NB274_284.out
            have hnb101 := NB284_292.out
            have hnc101 := NB292_284.out
            have hnb102 := NB284_299.out
            have hnc102 := NB299_284.out
            have hcz103_0 : wc.cell? ⟨gb284, 0, none⟩ = some (.slice Ao15 t277.length co15) := (blk_cell BK284.out 0).trans rfl
            have hcz103_1 : wc.cell? ⟨gb284, 1, none⟩ = some (u285001) := (blk_cell BK284.out 1).trans rfl
            have hfz103_0 := blk_frozen BK284.out 0
            have hfz103_1 := blk_frozen BK284.out 1
            obtain ⟨Ao104, co104, eo104⟩ := Kd.R_slice HO_285001.out
            subst eo104
            iterate 7 (first | go_quiet (fail) | try go_wp2)
            go_loopg [119] kj73 (fun kq v119 w' => ∃ (x119_4 : Int), v119 = .int .i64 x119_4 ∧ Aside0 (athanorlaw04_TensorMakes.l1 kq a1 t291 x285001_2 (x285001_2.length : Int) x119_4 l0_0 l0_1 t285 x293001_2 = some r) ∧ Aside0 (kq ≤ kj73) ∧ Aside0 (Kd.R (Kd.int .i64) 27 w' w.heap.size (fun k_ => some k_ ≠ (u293001 : Value).ownBlock ∧ some k_ ≠ (u300001 : Value).ownBlock) (.slice Ao104 x285001_2.length co104) x285001_2) ∧ Aside0 (Kd.R (Kd.int .i64) 3 w' w.heap.size (fun k_ => some k_ ≠ ((.slice Ao22 t285.length co22) : Value).ownBlock ∧ some k_ ≠ ((.slice Ao30 t293.length co30) : Value).ownBlock) (.slice Ao15 t277.length co15) t277) ∧ Aside0 (Kd.R (Kd.int .i64) 27 w' w.heap.size (fun k_ => some k_ ≠ (u293001 : Value).ownBlock ∧ some k_ ≠ (u300001 : Value).ownBlock) (.slice Ao104 x285001_2.length co104) x285001_2) ∧ Aside0 (Kd.R (Kd.int .i64) 3 w' w.heap.size (fun k_ => some k_ ≠ ((.slice Ao15 t277.length co15) : Value).ownBlock ∧ some k_ ≠ ((.slice Ao30 t293.length co30) : Value).ownBlock) (.slice Ao22 t285.length co22) t285) ∧ Aside0 (Kd.R (Kd.int .i64) 27 w' w.heap.size (fun k_ => some k_ ≠ ((.slice Ao104 x285001_2.length co104) : Value).ownBlock ∧ some k_ ≠ ((.slice Ao104 x285001_2.length co104) : Value).ownBlock ∧ some k_ ≠ (u300001 : Value).ownBlock) u293001 x293001_2) ∧ Aside0 (Kd.R (Kd.int .i64) 3 w' w.heap.size (fun k_ => some k_ ≠ ((.slice Ao15 t277.length co15) : Value).ownBlock ∧ some k_ ≠ ((.slice Ao22 t285.length co22) : Value).ownBlock) (.slice Ao30 t293.length co30) t293) ∧ Aside0 (Kd.R (Kd.int .i64) 27 w' w.heap.size (fun k_ => some k_ ≠ ((.slice Ao104 x285001_2.length co104) : Value).ownBlock ∧ some k_ ≠ ((.slice Ao104 x285001_2.length co104) : Value).ownBlock ∧ some k_ ≠ (u293001 : Value).ownBlock) u300001 x300001_2) ∧ Aside0 (w'.heap[gb274]? = some (.cells #[(.slice A0_0 l0_0.length c0_0), (.slice A0_1 l0_1.length c0_1)] 26 (0, 0))) ∧ Aside0 (w'.heap[gb284]? = some (.cells #[(.slice Ao15 t277.length co15), (.slice Ao104 x285001_2.length co104)] 26 (0, 0))) ∧ Aside0 (w'.heap[gb292]? = some (.cells #[(.slice Ao22 t285.length co22), u293001] 26 (0, 0))) ∧ Aside0 (w'.heap[gb299]? = some (.cells #[(.slice Ao30 t293.length co30), u300001] 26 (0, 0))) ∧ Aside0 (Below w.heap.size w w'))
            case atStart => exact ⟨(0), (by first | rfl | (simp; done) | (simp [*]; done)), H', ⟨Nat.le_refl _⟩, ⟨by (with_reducible repeat (first | apply Kd.R_alloc | apply Kd.R_drewN | apply Kd.R_drew)); exact HO_285001.out⟩, ⟨by (with_reducible repeat (first | apply Kd.R_alloc | apply Kd.R_drewN | apply Kd.R_drew)); exact HO_285000.out⟩, ⟨by (with_reducible repeat (first | apply Kd.R_alloc | apply Kd.R_drewN | apply Kd.R_drew)); exact HO_285001.out⟩, ⟨by (with_reducible repeat (first | apply Kd.R_alloc | apply Kd.R_drewN | apply Kd.R_drew)); exact HO_293000.out⟩, ⟨by (with_reducible repeat (first | apply Kd.R_alloc | apply Kd.R_drewN | apply Kd.R_drew)); exact Kd.R_mono HO_293001.out (fun _ hk => ⟨hk.1, ⟨hk.1, hk.2⟩⟩)⟩, ⟨by (with_reducible repeat (first | apply Kd.R_alloc | apply Kd.R_drewN | apply Kd.R_drew)); exact HO_300000.out⟩, ⟨by (with_reducible repeat (first | apply Kd.R_alloc | apply Kd.R_drewN | apply Kd.R_drew)); exact Kd.R_mono HO_300001.out (fun _ hk => ⟨hk.1, ⟨hk.1, hk.2⟩⟩)⟩, ⟨by (with_reducible repeat (first | refine blk_drewN ?_ _ | refine blk_drew ?_ | refine blk_alloc ?_ _)); exact BK274.out⟩, ⟨by (with_reducible repeat (first | refine blk_drewN ?_ _ | refine blk_drew ?_ | refine blk_alloc ?_ _)); exact BK284.out⟩, ⟨by (with_reducible repeat (first | refine blk_drewN ?_ _ | refine blk_drew ?_ | refine blk_alloc ?_ _)); exact BK292.out⟩, ⟨by (with_reducible repeat (first | refine blk_drewN ?_ _ | refine blk_drew ?_ | refine blk_alloc ?_ _)); exact BK299.out⟩, ⟨by repeat (first | (with_reducible first | exact HB.out | apply below_alloc | apply pw_below_drewN | apply below_drew1 | refine below_set ?_ GE274.out | refine below_set ?_ GE284.out | refine below_set ?_ GE292.out | refine below_set ?_ GE299.out) | exact HB.out)⟩⟩
            case round =>
             clear H'
             (try clear c1); (try clear c2); (try clear p2); (try clear c3); (try clear p3); (try clear q3); (try clear hx3); (try clear c4); (try clear c5); (try clear p5); (try clear q5); (try clear hx5); (try clear hf5); (try clear c6); (try clear p6); (try clear c7); (try clear c8); (try clear c9); (try clear c10); (try clear c11); (try clear c12); (try clear c13); (try clear c14); (try clear c15); (try clear c16); (try clear c23); (try clear c24); (try clear p30); (try clear q30); (try clear hx30); (try clear c31); (try clear c32); (try clear c33); (try clear c38); (try clear c38b0); (try clear c38b1); (try clear c38b2); (try clear c49); (try clear c50); (try clear c51); (try clear c52); (try clear c54); (try clear c54b0); (try clear c55); (try clear c55b0); (try clear c56); (try clear c56b0); (try clear p57); (try clear q57); (try clear hx57); (try clear hf57); (try clear c58); (try clear c58b0); (try clear c59); (try clear c59b0); (try clear c60); (try clear c60b0); (try clear c60b1); (try clear c61); (try clear c62); (try clear c63); (try clear p64); (try clear c68); (try clear c69); (try clear c73); (try clear c75); (try clear c76); (try clear c77); (try clear c79); (try clear c79b0); (try clear c79b1); (try clear c81); (try clear c81b0); (try clear c81b1); (try clear c83); (try clear c84); (try clear c85); (try clear c88); (try clear c89); (try clear c91); (try clear c92); (try clear c93); (try clear c96); (try clear c97); (try clear c99); (try clear c100); (try clear c101); (try clear c102); (try clear hcz103_0); (try clear hcz103_1); (try clear hcz10_0); (try clear hcz10_1); (try clear hcz12_0); (try clear hcz12_1); (try clear hcz17_0); (try clear hcz17_1); (try clear hcz19_0); (try clear hcz19_1); (try clear hcz25_0); (try clear hcz25_1); (try clear hcz27_0); (try clear hcz27_1); (try clear hcz34_0); (try clear hcz34_1); (try clear hcz53_0); (try clear hcz53_1); (try clear hcz64_0); (try clear hcz64_1); (try clear hcz70_0); (try clear hcz70_1); (try clear hcz71_0); (try clear hcz71_1); (try clear hcz78_0); (try clear hcz78_1); (try clear hcz86_0); (try clear hcz86_1); (try clear hcz90_0); (try clear hcz90_1); (try clear hcz94_0); (try clear hcz94_1); (try clear hcz98_0); (try clear hcz98_1); (try clear hfz103_0); (try clear hfz103_1); (try clear hfz10_0); (try clear hfz10_1); (try clear hfz12_0); (try clear hfz12_1); (try clear hfz17_0); (try clear hfz17_1); (try clear hfz19_0); (try clear hfz19_1); (try clear hfz25_0); (try clear hfz25_1); (try clear hfz27_0); (try clear hfz27_1); (try clear hfz34_0); (try clear hfz34_1); (try clear hfz53_0); (try clear hfz53_1); (try clear hfz64_0); (try clear hfz64_1); (try clear hfz70_0); (try clear hfz70_1); (try clear hfz71_0); (try clear hfz71_1); (try clear hfz78_0); (try clear hfz78_1); (try clear hfz86_0); (try clear hfz86_1); (try clear hfz90_0); (try clear hfz90_1); (try clear hfz94_0); (try clear hfz94_1); (try clear hfz98_0); (try clear hfz98_1); (try clear hx303_0); (try clear hx305_0); (try clear hx306_0); (try clear hx57_0); (try clear p2); (try clear p3); (try clear p30); (try clear p303); (try clear p305); (try clear p306); (try clear p5); (try clear p57); (try clear p6); (try clear p64); (try clear q3); (try clear q30); (try clear q303); (try clear q305); (try clear q306); (try clear q5); (try clear q57)
             obtain ⟨x119_4, rfl, HA, HK4, HO_117, HO_285000, HO_285001, HO_293000, HO_293001, HO_300000, HO_300001, BK274, BK284, BK292, BK299, HB⟩ := hrel
             cases gk with
             | zero => exact absurd HA.out (by simp [athanorlaw04_TensorMakes.l1])
             | succ k4 =>
              have H := HA.out
              clear HA
              simp only [athanorlaw04_TensorMakes.l1] at H
              by_cases c105 : x119_4 < (x285001_2.length : Int)
              ·rw [if_pos c105] at H
               have c105b0 : decide (x119_4 < (x285001_2.length : Int)) = true := decide_eq_true c105
               clear c105
               by_cases c106 : 0 ≤ x119_4
               ·rw [if_pos c106] at H
                have c106b0 : decide (0 ≤ x119_4) = true := decide_eq_true c106
                clear c106
                by_cases c107 : x119_4 < (x285001_2.length : Int)
                ·rw [if_pos c107] at H
                 have c107b0 : decide (x119_4 < (x285001_2.length : Int)) = true := decide_eq_true c107
                 clear c107
                 by_cases c108 : (rd x285001_2 x119_4) = a1
                 ·rw [if_pos c108] at H
                  have c108b0 : ((rd x285001_2 x119_4) == a1) = true := beq_iff_eq.mpr c108
                  have c108b1 : ((rd x285001_2 x119_4) != a1) = false := bne_eq_false_iff_eq.mpr c108
                  clear c108
                  as_aux_lemma =>
                   have H' := Aside0.mk H
                   clear H
                   have p311 : 0 ≤ (x119_4 : Int) := of_decide_eq_true (by first | (with_reducible assumption) | assumption)
                   have q311 : x119_4 < (x285001_2.length : Int) := of_decide_eq_true (by first | (with_reducible assumption) | assumption)
                   obtain ⟨ad311, e311, hx311_0⟩ := Kd.at_int (Kd.R_reads' HO_117.out).2.2 x119_4 p311 q311
                   cases e311
                   replace p311 := eq_true p311
                   replace q311 := eq_true q311
                   iterate 7 (first | go_quiet (fail) | try go_wp2)
                   go_roundg k4
                   case measure => have := HJ7.out; have := HK2.out; have := HJ73.out; have := HK4.out; omega
                   case rel => exact ⟨(wrap64 (x119_4 + 1)), (by first | rfl | (simp; done) | (simp [*]; done)), H', ⟨by have := HJ7.out; have := HK2.out; have := HJ73.out; have := HK4.out; omega⟩, ⟨by (with_reducible repeat (first | apply Kd.R_alloc | apply Kd.R_drewN | apply Kd.R_drew)); exact HO_117.out⟩, ⟨by (with_reducible repeat (first | apply Kd.R_alloc | apply Kd.R_drewN | apply Kd.R_drew)); exact HO_285000.out⟩, ⟨by (with_reducible repeat (first | apply Kd.R_alloc | apply Kd.R_drewN | apply Kd.R_drew)); exact HO_285001.out⟩, ⟨by (with_reducible repeat (first | apply Kd.R_alloc | apply Kd.R_drewN | apply Kd.R_drew)); exact HO_293000.out⟩, ⟨by (with_reducible repeat (first | apply Kd.R_alloc | apply Kd.R_drewN | apply Kd.R_drew)); exact HO_293001.out⟩, ⟨by (with_reducible repeat (first | apply Kd.R_alloc | apply Kd.R_drewN | apply Kd.R_drew)); exact HO_300000.out⟩, ⟨by (with_reducible repeat (first | apply Kd.R_alloc | apply Kd.R_drewN | apply Kd.R_drew)); exact HO_300001.out⟩, ⟨by (with_reducible repeat (first | refine blk_drewN ?_ _ | refine blk_drew ?_ | refine blk_alloc ?_ _)); exact BK274.out⟩, ⟨by (with_reducible repeat (first | refine blk_drewN ?_ _ | refine blk_drew ?_ | refine blk_alloc ?_ _)); exact BK284.out⟩, ⟨by (with_reducible repeat (first | refine blk_drewN ?_ _ | refine blk_drew ?_ | refine blk_alloc ?_ _)); exact BK292.out⟩, ⟨by (with_reducible repeat (first | refine blk_drewN ?_ _ | refine blk_drew ?_ | refine blk_alloc ?_ _)); exact BK299.out⟩, ⟨by repeat (first | (with_reducible first | exact HB.out | apply below_alloc | apply pw_below_drewN | apply below_drew1 | refine below_set ?_ GE274.out | refine below_set ?_ GE284.out | refine below_set ?_ GE292.out | refine below_set ?_ GE299.out) | exact HB.out)⟩⟩
                 ·rw [if_neg c108] at H
                  exact absurd H (by simp)
                ·rw [if_neg c107] at H
                 exact absurd H (by simp)
               ·rw [if_neg c106] at H
                exact absurd H (by simp)
              ·rw [if_neg c105] at H
               have c105b0 : decide (x119_4 < (x285001_2.length : Int)) = false := decide_eq_false c105
               clear c105
               replace H := Option.bind_eq_some_iff.mp H
               obtain ⟨t312, A1090, H⟩ := H
               replace H : (if ((t291 == 0) == t312) = true then (if t291 = 0 then ((tensor_Equal_fix_F.f k4 t285 x293001_2 l0_0 l0_1).bind fun t313 => (if t313 = true then ((athanorlaw04_awake.f k4).bind fun t314 => (some t314)) else (none))) else ((athanorlaw04_awake.f k4).bind fun t315 => (some t315))) else (none)) = some r := H
               have A109 := Aside0.mk A1090
               clear A1090
               by_cases c110 : ((t291 == 0) == t312) = true
               ·rw [if_pos c110] at H
                have c110b0 : ((t291 == 0) == t312) = true := c110
                (try (have c110b1 : decide ((t291 == 0) = t312) = true := by simpa using c110))
                (try (have c110b2 : ((t291 == 0) == t312) = true := by simpa using c110))
                clear c110
                by_cases c111 : t291 = 0
                ·rw [if_pos c111] at H
                 have c111b0 : (t291 == 0) = true := beq_iff_eq.mpr c111
                 (try (have cX_ : t312 = true := (by decide : ∀ q_ t_ : Bool, (q_ == t_) = true → q_ = true → t_ = true) _ _ c110b0 c111b0))
                 have c111b1 : (t291 != 0) = false := bne_eq_false_iff_eq.mpr c111
                 clear c111
                 replace H := Option.bind_eq_some_iff.mp H
                 obtain ⟨t313, A1120, H⟩ := H
                 replace H : (if t313 = true then ((athanorlaw04_awake.f k4).bind fun t314 => (some t314)) else (none)) = some r := H
                 have A112 := Aside0.mk A1120
                 clear A1120
                 by_cases c113 : t313 = true
                 ·subst c113
                  have H1 : ((athanorlaw04_awake.f k4).bind fun t314 => (some t314)) = some r := by rw [if_pos rfl] at H; exact H
                  clear H
                  have H := H1
                  clear H1
                  replace H := Option.bind_eq_some_iff.mp H
                  obtain ⟨t314, A1140, H⟩ := H
                  replace H : (some t314) = some r := H
                  have A114 := Aside0.mk A1140
                  clear A1140
                  as_aux_lemma =>
                   obtain rfl := Option.some.inj H
                   have hnb115 := NB274_284.out
                   have hnc115 := NB284_274.out
                   have hnb116 := NB274_292.out
                   have hnc116 := NB292_274.out
                   have hnb117 := NB274_299.out
                   have hnc117 := NB299_274.out
                   have hcz118_0 : wr.cell? ⟨gb274, 0, none⟩ = some (.slice A0_0 l0_0.length c0_0) := (blk_cell BK274.out 0).trans rfl
                   have hcz118_1 : wr.cell? ⟨gb274, 1, none⟩ = some (.slice A0_1 l0_1.length c0_1) := (blk_cell BK274.out 1).trans rfl
                   have hfz118_0 := blk_frozen BK274.out 0
                   have hfz118_1 := blk_frozen BK274.out 1
                   iterate 7 (first | go_quiet (first | ((with_reducible refine gate_callee (f := 14) rfl ?_); refine goesL_ (some 130) rfl rfl Try.func14 (by kernel_rfl) rfl #[.agg #[.slice A0_0 l0_0.length c0_0, .slice A0_1 l0_1.length c0_1]] rfl (by (try simp only [List.map_toArray, List.map_cons, List.map_nil]); first | done | rfl | (simp only [List.length_drop, List.length_take]; rfl)) ?_; (with_reducible refine (athanorlaw04_right.calls k4 _ _ l0_0 _ _ l0_1 t312 _ ?side1 ?side2 ?side3 ?side4 A109.out).mono ?_); (case side1 => repeat (first | exact (Kd.C_below HR0_0.out HB.out) | (with_reducible refine Kd.C_alloc ?_ _) | (with_reducible refine Kd.C_drewN ?_ _) | (with_reducible refine Kd.C_drew ?_))); (case side2 => exact HC0_0.out); (case side3 => repeat (first | exact (Kd.C_below HR0_1.out HB.out) | (with_reducible refine Kd.C_alloc ?_ _) | (with_reducible refine Kd.C_drewN ?_ _) | (with_reducible refine Kd.C_drew ?_))); (case side4 => exact HC0_1.out); rintro e w119 ⟨rfl, hb⟩; refine ⟨_, rfl, ?_⟩; have n0_ := Aside0.mk (Kd.R_below (by (with_reducible repeat (first | apply Kd.R_alloc | apply Kd.R_drewN | apply Kd.R_drew)); exact HO_117.out) hb); have n1_ := Aside0.mk (Kd.R_below (by (with_reducible repeat (first | apply Kd.R_alloc | apply Kd.R_drewN | apply Kd.R_drew)); exact HO_285000.out) hb); have n2_ := Aside0.mk (Kd.R_below (by (with_reducible repeat (first | apply Kd.R_alloc | apply Kd.R_drewN | apply Kd.R_drew)); exact HO_285001.out) hb); have n3_ := Aside0.mk (Kd.R_below (by (with_reducible repeat (first | apply Kd.R_alloc | apply Kd.R_drewN | apply Kd.R_drew)); exact HO_293000.out) hb); have n4_ := Aside0.mk (Kd.R_below (by (with_reducible repeat (first | apply Kd.R_alloc | apply Kd.R_drewN | apply Kd.R_drew)); exact HO_293001.out) hb); have n5_ := Aside0.mk (Kd.R_below (by (with_reducible repeat (first | apply Kd.R_alloc | apply Kd.R_drewN | apply Kd.R_drew)); exact HO_300000.out) hb); have n6_ := Aside0.mk (Kd.R_below (by (with_reducible repeat (first | apply Kd.R_alloc | apply Kd.R_drewN | apply Kd.R_drew)); exact HO_300001.out) hb); have n7_ := Aside0.mk (blk_below (g := gb274) (o := .cells #[.slice A0_0 l0_0.length c0_0, .slice A0_1 l0_1.length c0_1] 26 (0, 0)) (by (with_reducible repeat (first | refine blk_drewN ?_ _ | refine blk_drew ?_ | refine blk_alloc ?_ _)); exact BK274.out) hb); have n8_ := Aside0.mk (blk_below (g := gb284) (o := .cells #[.slice Ao15 t277.length co15, .slice Ao104 x285001_2.length co104] 26 (0, 0)) (by (with_reducible repeat (first | refine blk_drewN ?_ _ | refine blk_drew ?_ | refine blk_alloc ?_ _)); exact BK284.out) hb); have n9_ := Aside0.mk (blk_below (g := gb292) (o := .cells #[.slice Ao22 t285.length co22, u293001] 26 (0, 0)) (by (with_reducible repeat (first | refine blk_drewN ?_ _ | refine blk_drew ?_ | refine blk_alloc ?_ _)); exact BK292.out) hb); have n10_ := Aside0.mk (blk_below (g := gb299) (o := .cells #[.slice Ao30 t293.length co30, u300001] 26 (0, 0)) (by (with_reducible repeat (first | refine blk_drewN ?_ _ | refine blk_drew ?_ | refine blk_alloc ?_ _)); exact BK299.out) hb); have n11_ := Aside0.mk (below_step (by repeat (first | (with_reducible first | exact HB.out | apply below_alloc | apply pw_below_drewN | apply below_drew1 | refine below_set ?_ GE274.out | refine below_set ?_ GE284.out | refine below_set ?_ GE292.out | refine below_set ?_ GE299.out) | exact HB.out)) hb); clear HO_117; clear HO_285000; clear HO_285001; clear HO_293000; clear HO_293001; clear HO_300000; clear HO_300001; clear BK274; clear BK284; clear BK292; clear BK299; clear HB; have HO_117 := n0_; have HO_285000 := n1_; have HO_285001 := n2_; have HO_293000 := n3_; have HO_293001 := n4_; have HO_300000 := n5_; have HO_300001 := n6_; have BK274 := n7_; have BK284 := n8_; have BK292 := n9_; have BK299 := n10_; have HB := n11_; clear n0_ n1_ n2_ n3_ n4_ n5_ n6_ n7_ n8_ n9_ n10_ n11_; (try clear hb); (try clear hb2); (try clear hk); (try clear hi); have hnb120 := NB292_284.out; have hnc120 := NB284_292.out; have hnb121 := NB292_299.out; have hnc121 := NB299_292.out; have hcz122_0 : w119.cell? ⟨gb292, 0, none⟩ = some (.slice Ao22 t285.length co22) := (blk_cell BK292.out 0).trans rfl; have hcz122_1 : w119.cell? ⟨gb292, 1, none⟩ = some (u293001) := (blk_cell BK292.out 1).trans rfl; have hfz122_0 := blk_frozen BK292.out 0; have hfz122_1 := blk_frozen BK292.out 1; have hcz123_0 : w119.cell? ⟨gb274, 0, none⟩ = some (.slice A0_0 l0_0.length c0_0) := (blk_cell BK274.out 0).trans rfl; have hcz123_1 : w119.cell? ⟨gb274, 1, none⟩ = some (.slice A0_1 l0_1.length c0_1) := (blk_cell BK274.out 1).trans rfl; have hfz123_0 := blk_frozen BK274.out 0; have hfz123_1 := blk_frozen BK274.out 1; obtain ⟨Ao124, co124, eo124⟩ := Kd.R_slice HO_293001.out; subst eo124) | (go_at_call 15; (with_reducible refine (tensor_Equal_fix_F.calls k4 _ _ t285 _ _ x293001_2 _ _ l0_0 _ _ l0_1 true _ ?side1 ?side2 ?side3 ?side4 ?side5 ?side6 ?side7 ?side8 A112.out).mono ?_); (case side1 => repeat (first | exact (Kd.R_reads' HO_293000.out).2.2 | (with_reducible refine Kd.C_alloc ?_ _) | (with_reducible refine Kd.C_drewN ?_ _) | (with_reducible refine Kd.C_drew ?_))); (case side2 => exact (Kd.R_reads' HO_293000.out).2.1); (case side3 => repeat (first | exact (Kd.R_reads' HO_293001.out).2.2 | (with_reducible refine Kd.C_alloc ?_ _) | (with_reducible refine Kd.C_drewN ?_ _) | (with_reducible refine Kd.C_drew ?_))); (case side4 => exact (Kd.R_reads' HO_293001.out).2.1); (case side5 => repeat (first | exact (Kd.C_below HR0_0.out HB.out) | (with_reducible refine Kd.C_alloc ?_ _) | (with_reducible refine Kd.C_drewN ?_ _) | (with_reducible refine Kd.C_drew ?_))); (case side6 => exact HC0_0.out); (case side7 => repeat (first | exact (Kd.C_below HR0_1.out HB.out) | (with_reducible refine Kd.C_alloc ?_ _) | (with_reducible refine Kd.C_drewN ?_ _) | (with_reducible refine Kd.C_drew ?_))); (case side8 => exact HC0_1.out); rintro e w125 ⟨rfl, hb⟩; have n0_ := Aside0.mk (Kd.R_below (by (with_reducible repeat (first | apply Kd.R_alloc | apply Kd.R_drewN | apply Kd.R_drew)); exact HO_117.out) hb); have n1_ := Aside0.mk (Kd.R_below (by (with_reducible repeat (first | apply Kd.R_alloc | apply Kd.R_drewN | apply Kd.R_drew)); exact HO_285000.out) hb); have n2_ := Aside0.mk (Kd.R_below (by (with_reducible repeat (first | apply Kd.R_alloc | apply Kd.R_drewN | apply Kd.R_drew)); exact HO_285001.out) hb); have n3_ := Aside0.mk (Kd.R_below (by (with_reducible repeat (first | apply Kd.R_alloc | apply Kd.R_drewN | apply Kd.R_drew)); exact HO_293000.out) hb); have n4_ := Aside0.mk (Kd.R_below (by (with_reducible repeat (first | apply Kd.R_alloc | apply Kd.R_drewN | apply Kd.R_drew)); exact HO_293001.out) hb); have n5_ := Aside0.mk (Kd.R_below (by (with_reducible repeat (first | apply Kd.R_alloc | apply Kd.R_drewN | apply Kd.R_drew)); exact HO_300000.out) hb); have n6_ := Aside0.mk (Kd.R_below (by (with_reducible repeat (first | apply Kd.R_alloc | apply Kd.R_drewN | apply Kd.R_drew)); exact HO_300001.out) hb); have n7_ := Aside0.mk (blk_below (g := gb274) (o := .cells #[.slice A0_0 l0_0.length c0_0, .slice A0_1 l0_1.length c0_1] 26 (0, 0)) (by (with_reducible repeat (first | refine blk_drewN ?_ _ | refine blk_drew ?_ | refine blk_alloc ?_ _)); exact BK274.out) hb); have n8_ := Aside0.mk (blk_below (g := gb284) (o := .cells #[.slice Ao15 t277.length co15, .slice Ao104 x285001_2.length co104] 26 (0, 0)) (by (with_reducible repeat (first | refine blk_drewN ?_ _ | refine blk_drew ?_ | refine blk_alloc ?_ _)); exact BK284.out) hb); have n9_ := Aside0.mk (blk_below (g := gb292) (o := .cells #[.slice Ao22 t285.length co22, .slice Ao124 x293001_2.length co124] 26 (0, 0)) (by (with_reducible repeat (first | refine blk_drewN ?_ _ | refine blk_drew ?_ | refine blk_alloc ?_ _)); exact BK292.out) hb); have n10_ := Aside0.mk (blk_below (g := gb299) (o := .cells #[.slice Ao30 t293.length co30, u300001] 26 (0, 0)) (by (with_reducible repeat (first | refine blk_drewN ?_ _ | refine blk_drew ?_ | refine blk_alloc ?_ _)); exact BK299.out) hb); have n11_ := Aside0.mk (below_step (by repeat (first | (with_reducible first | exact HB.out | apply below_alloc | apply pw_below_drewN | apply below_drew1 | refine below_set ?_ GE274.out | refine below_set ?_ GE284.out | refine below_set ?_ GE292.out | refine below_set ?_ GE299.out) | exact HB.out)) hb); clear HO_117; clear HO_285000; clear HO_285001; clear HO_293000; clear HO_293001; clear HO_300000; clear HO_300001; clear BK274; clear BK284; clear BK292; clear BK299; clear HB; have HO_117 := n0_; have HO_285000 := n1_; have HO_285001 := n2_; have HO_293000 := n3_; have HO_293001 := n4_; have HO_300000 := n5_; have HO_300001 := n6_; have BK274 := n7_; have BK284 := n8_; have BK292 := n9_; have BK299 := n10_; have HB := n11_; clear n0_ n1_ n2_ n3_ n4_ n5_ n6_ n7_ n8_ n9_ n10_ n11_; (try clear hb); (try clear hb2); (try clear hk); (try clear hi)) | (go_at_call 9; (with_reducible refine (athanorlaw04_awake.calls k4  t314 _ A114.out).mono ?_); rintro e w126 ⟨rfl, hb⟩; have n0_ := Aside0.mk (Kd.R_below (by (with_reducible repeat (first | apply Kd.R_alloc | apply Kd.R_drewN | apply Kd.R_drew)); exact HO_117.out) hb); have n1_ := Aside0.mk (Kd.R_below (by (with_reducible repeat (first | apply Kd.R_alloc | apply Kd.R_drewN | apply Kd.R_drew)); exact HO_285000.out) hb); have n2_ := Aside0.mk (Kd.R_below (by (with_reducible repeat (first | apply Kd.R_alloc | apply Kd.R_drewN | apply Kd.R_drew)); exact HO_285001.out) hb); have n3_ := Aside0.mk (Kd.R_below (by (with_reducible repeat (first | apply Kd.R_alloc | apply Kd.R_drewN | apply Kd.R_drew)); exact HO_293000.out) hb); have n4_ := Aside0.mk (Kd.R_below (by (with_reducible repeat (first | apply Kd.R_alloc | apply Kd.R_drewN | apply Kd.R_drew)); exact HO_293001.out) hb); have n5_ := Aside0.mk (Kd.R_below (by (with_reducible repeat (first | apply Kd.R_alloc | apply Kd.R_drewN | apply Kd.R_drew)); exact HO_300000.out) hb); have n6_ := Aside0.mk (Kd.R_below (by (with_reducible repeat (first | apply Kd.R_alloc | apply Kd.R_drewN | apply Kd.R_drew)); exact HO_300001.out) hb); have n7_ := Aside0.mk (blk_below (g := gb274) (o := .cells #[.slice A0_0 l0_0.length c0_0, .slice A0_1 l0_1.length c0_1] 26 (0, 0)) (by (with_reducible repeat (first | refine blk_drewN ?_ _ | refine blk_drew ?_ | refine blk_alloc ?_ _)); exact BK274.out) hb); have n8_ := Aside0.mk (blk_below (g := gb284) (o := .cells #[.slice Ao15 t277.length co15, .slice Ao104 x285001_2.length co104] 26 (0, 0)) (by (with_reducible repeat (first | refine blk_drewN ?_ _ | refine blk_drew ?_ | refine blk_alloc ?_ _)); exact BK284.out) hb); have n9_ := Aside0.mk (blk_below (g := gb292) (o := .cells #[.slice Ao22 t285.length co22, .slice Ao124 x293001_2.length co124] 26 (0, 0)) (by (with_reducible repeat (first | refine blk_drewN ?_ _ | refine blk_drew ?_ | refine blk_alloc ?_ _)); exact BK292.out) hb); have n10_ := Aside0.mk (blk_below (g := gb299) (o := .cells #[.slice Ao30 t293.length co30, u300001] 26 (0, 0)) (by (with_reducible repeat (first | refine blk_drewN ?_ _ | refine blk_drew ?_ | refine blk_alloc ?_ _)); exact BK299.out) hb); have n11_ := Aside0.mk (below_step (by repeat (first | (with_reducible first | exact HB.out | apply below_alloc | apply pw_below_drewN | apply below_drew1 | refine below_set ?_ GE274.out | refine below_set ?_ GE284.out | refine below_set ?_ GE292.out | refine below_set ?_ GE299.out) | exact HB.out)) hb); clear HO_117; clear HO_285000; clear HO_285001; clear HO_293000; clear HO_293001; clear HO_300000; clear HO_300001; clear BK274; clear BK284; clear BK292; clear BK299; clear HB; have HO_117 := n0_; have HO_285000 := n1_; have HO_285001 := n2_; have HO_293000 := n3_; have HO_293001 := n4_; have HO_300000 := n5_; have HO_300001 := n6_; have BK274 := n7_; have BK284 := n8_; have BK292 := n9_; have BK299 := n10_; have HB := n11_; clear n0_ n1_ n2_ n3_ n4_ n5_ n6_ n7_ n8_ n9_ n10_ n11_; (try clear hb); (try clear hb2); (try clear hk); (try clear hi))) | try go_wp2_with (first | ((with_reducible refine gate_callee (f := 14) rfl ?_); refine goesL_ (some 130) rfl rfl Try.func14 (by kernel_rfl) rfl #[.agg #[.slice A0_0 l0_0.length c0_0, .slice A0_1 l0_1.length c0_1]] rfl (by (try simp only [List.map_toArray, List.map_cons, List.map_nil]); first | done | rfl | (simp only [List.length_drop, List.length_take]; rfl)) ?_; (with_reducible refine (athanorlaw04_right.calls k4 _ _ l0_0 _ _ l0_1 t312 _ ?side1 ?side2 ?side3 ?side4 A109.out).mono ?_); (case side1 => repeat (first | exact (Kd.C_below HR0_0.out HB.out) | (with_reducible refine Kd.C_alloc ?_ _) | (with_reducible refine Kd.C_drewN ?_ _) | (with_reducible refine Kd.C_drew ?_))); (case side2 => exact HC0_0.out); (case side3 => repeat (first | exact (Kd.C_below HR0_1.out HB.out) | (with_reducible refine Kd.C_alloc ?_ _) | (with_reducible refine Kd.C_drewN ?_ _) | (with_reducible refine Kd.C_drew ?_))); (case side4 => exact HC0_1.out); rintro e w119 ⟨rfl, hb⟩; refine ⟨_, rfl, ?_⟩; have n0_ := Aside0.mk (Kd.R_below (by (with_reducible repeat (first | apply Kd.R_alloc | apply Kd.R_drewN | apply Kd.R_drew)); exact HO_117.out) hb); have n1_ := Aside0.mk (Kd.R_below (by (with_reducible repeat (first | apply Kd.R_alloc | apply Kd.R_drewN | apply Kd.R_drew)); exact HO_285000.out) hb); have n2_ := Aside0.mk (Kd.R_below (by (with_reducible repeat (first | apply Kd.R_alloc | apply Kd.R_drewN | apply Kd.R_drew)); exact HO_285001.out) hb); have n3_ := Aside0.mk (Kd.R_below (by (with_reducible repeat (first | apply Kd.R_alloc | apply Kd.R_drewN | apply Kd.R_drew)); exact HO_293000.out) hb); have n4_ := Aside0.mk (Kd.R_below (by (with_reducible repeat (first | apply Kd.R_alloc | apply Kd.R_drewN | apply Kd.R_drew)); exact HO_293001.out) hb); have n5_ := Aside0.mk (Kd.R_below (by (with_reducible repeat (first | apply Kd.R_alloc | apply Kd.R_drewN | apply Kd.R_drew)); exact HO_300000.out) hb); have n6_ := Aside0.mk (Kd.R_below (by (with_reducible repeat (first | apply Kd.R_alloc | apply Kd.R_drewN | apply Kd.R_drew)); exact HO_300001.out) hb); have n7_ := Aside0.mk (blk_below (g := gb274) (o := .cells #[.slice A0_0 l0_0.length c0_0, .slice A0_1 l0_1.length c0_1] 26 (0, 0)) (by (with_reducible repeat (first | refine blk_drewN ?_ _ | refine blk_drew ?_ | refine blk_alloc ?_ _)); exact BK274.out) hb); have n8_ := Aside0.mk (blk_below (g := gb284) (o := .cells #[.slice Ao15 t277.length co15, .slice Ao104 x285001_2.length co104] 26 (0, 0)) (by (with_reducible repeat (first | refine blk_drewN ?_ _ | refine blk_drew ?_ | refine blk_alloc ?_ _)); exact BK284.out) hb); have n9_ := Aside0.mk (blk_below (g := gb292) (o := .cells #[.slice Ao22 t285.length co22, u293001] 26 (0, 0)) (by (with_reducible repeat (first | refine blk_drewN ?_ _ | refine blk_drew ?_ | refine blk_alloc ?_ _)); exact BK292.out) hb); have n10_ := Aside0.mk (blk_below (g := gb299) (o := .cells #[.slice Ao30 t293.length co30, u300001] 26 (0, 0)) (by (with_reducible repeat (first | refine blk_drewN ?_ _ | refine blk_drew ?_ | refine blk_alloc ?_ _)); exact BK299.out) hb); have n11_ := Aside0.mk (below_step (by repeat (first | (with_reducible first | exact HB.out | apply below_alloc | apply pw_below_drewN | apply below_drew1 | refine below_set ?_ GE274.out | refine below_set ?_ GE284.out | refine below_set ?_ GE292.out | refine below_set ?_ GE299.out) | exact HB.out)) hb); clear HO_117; clear HO_285000; clear HO_285001; clear HO_293000; clear HO_293001; clear HO_300000; clear HO_300001; clear BK274; clear BK284; clear BK292; clear BK299; clear HB; have HO_117 := n0_; have HO_285000 := n1_; have HO_285001 := n2_; have HO_293000 := n3_; have HO_293001 := n4_; have HO_300000 := n5_; have HO_300001 := n6_; have BK274 := n7_; have BK284 := n8_; have BK292 := n9_; have BK299 := n10_; have HB := n11_; clear n0_ n1_ n2_ n3_ n4_ n5_ n6_ n7_ n8_ n9_ n10_ n11_; (try clear hb); (try clear hb2); (try clear hk); (try clear hi); have hnb120 := NB292_284.out; have hnc120 := NB284_292.out; have hnb121 := NB292_299.out; have hnc121 := NB299_292.out; have hcz122_0 : w119.cell? ⟨gb292, 0, none⟩ = some (.slice Ao22 t285.length co22) := (blk_cell BK292.out 0).trans rfl; have hcz122_1 : w119.cell? ⟨gb292, 1, none⟩ = some (u293001) := (blk_cell BK292.out 1).trans rfl; have hfz122_0 := blk_frozen BK292.out 0; have hfz122_1 := blk_frozen BK292.out 1; have hcz123_0 : w119.cell? ⟨gb274, 0, none⟩ = some (.slice A0_0 l0_0.length c0_0) := (blk_cell BK274.out 0).trans rfl; have hcz123_1 : w119.cell? ⟨gb274, 1, none⟩ = some (.slice A0_1 l0_1.length c0_1) := (blk_cell BK274.out 1).trans rfl; have hfz123_0 := blk_frozen BK274.out 0; have hfz123_1 := blk_frozen BK274.out 1; obtain ⟨Ao124, co124, eo124⟩ := Kd.R_slice HO_293001.out; subst eo124) | (go_at_call 15; (with_reducible refine (tensor_Equal_fix_F.calls k4 _ _ t285 _ _ x293001_2 _ _ l0_0 _ _ l0_1 true _ ?side1 ?side2 ?side3 ?side4 ?side5 ?side6 ?side7 ?side8 A112.out).mono ?_); (case side1 => repeat (first | exact (Kd.R_reads' HO_293000.out).2.2 | (with_reducible refine Kd.C_alloc ?_ _) | (with_reducible refine Kd.C_drewN ?_ _) | (with_reducible refine Kd.C_drew ?_))); (case side2 => exact (Kd.R_reads' HO_293000.out).2.1); (case side3 => repeat (first | exact (Kd.R_reads' HO_293001.out).2.2 | (with_reducible refine Kd.C_alloc ?_ _) | (with_reducible refine Kd.C_drewN ?_ _) | (with_reducible refine Kd.C_drew ?_))); (case side4 => exact (Kd.R_reads' HO_293001.out).2.1); (case side5 => repeat (first | exact (Kd.C_below HR0_0.out HB.out) | (with_reducible refine Kd.C_alloc ?_ _) | (with_reducible refine Kd.C_drewN ?_ _) | (with_reducible refine Kd.C_drew ?_))); (case side6 => exact HC0_0.out); (case side7 => repeat (first | exact (Kd.C_below HR0_1.out HB.out) | (with_reducible refine Kd.C_alloc ?_ _) | (with_reducible refine Kd.C_drewN ?_ _) | (with_reducible refine Kd.C_drew ?_))); (case side8 => exact HC0_1.out); rintro e w125 ⟨rfl, hb⟩; have n0_ := Aside0.mk (Kd.R_below (by (with_reducible repeat (first | apply Kd.R_alloc | apply Kd.R_drewN | apply Kd.R_drew)); exact HO_117.out) hb); have n1_ := Aside0.mk (Kd.R_below (by (with_reducible repeat (first | apply Kd.R_alloc | apply Kd.R_drewN | apply Kd.R_drew)); exact HO_285000.out) hb); have n2_ := Aside0.mk (Kd.R_below (by (with_reducible repeat (first | apply Kd.R_alloc | apply Kd.R_drewN | apply Kd.R_drew)); exact HO_285001.out) hb); have n3_ := Aside0.mk (Kd.R_below (by (with_reducible repeat (first | apply Kd.R_alloc | apply Kd.R_drewN | apply Kd.R_drew)); exact HO_293000.out) hb); have n4_ := Aside0.mk (Kd.R_below (by (with_reducible repeat (first | apply Kd.R_alloc | apply Kd.R_drewN | apply Kd.R_drew)); exact HO_293001.out) hb); have n5_ := Aside0.mk (Kd.R_below (by (with_reducible repeat (first | apply Kd.R_alloc | apply Kd.R_drewN | apply Kd.R_drew)); exact HO_300000.out) hb); have n6_ := Aside0.mk (Kd.R_below (by (with_reducible repeat (first | apply Kd.R_alloc | apply Kd.R_drewN | apply Kd.R_drew)); exact HO_300001.out) hb); have n7_ := Aside0.mk (blk_below (g := gb274) (o := .cells #[.slice A0_0 l0_0.length c0_0, .slice A0_1 l0_1.length c0_1] 26 (0, 0)) (by (with_reducible repeat (first | refine blk_drewN ?_ _ | refine blk_drew ?_ | refine blk_alloc ?_ _)); exact BK274.out) hb); have n8_ := Aside0.mk (blk_below (g := gb284) (o := .cells #[.slice Ao15 t277.length co15, .slice Ao104 x285001_2.length co104] 26 (0, 0)) (by (with_reducible repeat (first | refine blk_drewN ?_ _ | refine blk_drew ?_ | refine blk_alloc ?_ _)); exact BK284.out) hb); have n9_ := Aside0.mk (blk_below (g := gb292) (o := .cells #[.slice Ao22 t285.length co22, .slice Ao124 x293001_2.length co124] 26 (0, 0)) (by (with_reducible repeat (first | refine blk_drewN ?_ _ | refine blk_drew ?_ | refine blk_alloc ?_ _)); exact BK292.out) hb); have n10_ := Aside0.mk (blk_below (g := gb299) (o := .cells #[.slice Ao30 t293.length co30, u300001] 26 (0, 0)) (by (with_reducible repeat (first | refine blk_drewN ?_ _ | refine blk_drew ?_ | refine blk_alloc ?_ _)); exact BK299.out) hb); have n11_ := Aside0.mk (below_step (by repeat (first | (with_reducible first | exact HB.out | apply below_alloc | apply pw_below_drewN | apply below_drew1 | refine below_set ?_ GE274.out | refine below_set ?_ GE284.out | refine below_set ?_ GE292.out | refine below_set ?_ GE299.out) | exact HB.out)) hb); clear HO_117; clear HO_285000; clear HO_285001; clear HO_293000; clear HO_293001; clear HO_300000; clear HO_300001; clear BK274; clear BK284; clear BK292; clear BK299; clear HB; have HO_117 := n0_; have HO_285000 := n1_; have HO_285001 := n2_; have HO_293000 := n3_; have HO_293001 := n4_; have HO_300000 := n5_; have HO_300001 := n6_; have BK274 := n7_; have BK284 := n8_; have BK292 := n9_; have BK299 := n10_; have HB := n11_; clear n0_ n1_ n2_ n3_ n4_ n5_ n6_ n7_ n8_ n9_ n10_ n11_; (try clear hb); (try clear hb2); (try clear hk); (try clear hi)) | (go_at_call 9; (with_reducible refine (athanorlaw04_awake.calls k4  t314 _ A114.out).mono ?_); rintro e w126 ⟨rfl, hb⟩; have n0_ := Aside0.mk (Kd.R_below (by (with_reducible repeat (first | apply Kd.R_alloc | apply Kd.R_drewN | apply Kd.R_drew)); exact HO_117.out) hb); have n1_ := Aside0.mk (Kd.R_below (by (with_reducible repeat (first | apply Kd.R_alloc | apply Kd.R_drewN | apply Kd.R_drew)); exact HO_285000.out) hb); have n2_ := Aside0.mk (Kd.R_below (by (with_reducible repeat (first | apply Kd.R_alloc | apply Kd.R_drewN | apply Kd.R_drew)); exact HO_285001.out) hb); have n3_ := Aside0.mk (Kd.R_below (by (with_reducible repeat (first | apply Kd.R_alloc | apply Kd.R_drewN | apply Kd.R_drew)); exact HO_293000.out) hb); have n4_ := Aside0.mk (Kd.R_below (by (with_reducible repeat (first | apply Kd.R_alloc | apply Kd.R_drewN | apply Kd.R_drew)); exact HO_293001.out) hb); have n5_ := Aside0.mk (Kd.R_below (by (with_reducible repeat (first | apply Kd.R_alloc | apply Kd.R_drewN | apply Kd.R_drew)); exact HO_300000.out) hb); have n6_ := Aside0.mk (Kd.R_below (by (with_reducible repeat (first | apply Kd.R_alloc | apply Kd.R_drewN | apply Kd.R_drew)); exact HO_300001.out) hb); have n7_ := Aside0.mk (blk_below (g := gb274) (o := .cells #[.slice A0_0 l0_0.length c0_0, .slice A0_1 l0_1.length c0_1] 26 (0, 0)) (by (with_reducible repeat (first | refine blk_drewN ?_ _ | refine blk_drew ?_ | refine blk_alloc ?_ _)); exact BK274.out) hb); have n8_ := Aside0.mk (blk_below (g := gb284) (o := .cells #[.slice Ao15 t277.length co15, .slice Ao104 x285001_2.length co104] 26 (0, 0)) (by (with_reducible repeat (first | refine blk_drewN ?_ _ | refine blk_drew ?_ | refine blk_alloc ?_ _)); exact BK284.out) hb); have n9_ := Aside0.mk (blk_below (g := gb292) (o := .cells #[.slice Ao22 t285.length co22, .slice Ao124 x293001_2.length co124] 26 (0, 0)) (by (with_reducible repeat (first | refine blk_drewN ?_ _ | refine blk_drew ?_ | refine blk_alloc ?_ _)); exact BK292.out) hb); have n10_ := Aside0.mk (blk_below (g := gb299) (o := .cells #[.slice Ao30 t293.length co30, u300001] 26 (0, 0)) (by (with_reducible repeat (first | refine blk_drewN ?_ _ | refine blk_drew ?_ | refine blk_alloc ?_ _)); exact BK299.out) hb); have n11_ := Aside0.mk (below_step (by repeat (first | (with_reducible first | exact HB.out | apply below_alloc | apply pw_below_drewN | apply below_drew1 | refine below_set ?_ GE274.out | refine below_set ?_ GE284.out | refine below_set ?_ GE292.out | refine below_set ?_ GE299.out) | exact HB.out)) hb); clear HO_117; clear HO_285000; clear HO_285001; clear HO_293000; clear HO_293001; clear HO_300000; clear HO_300001; clear BK274; clear BK284; clear BK292; clear BK299; clear HB; have HO_117 := n0_; have HO_285000 := n1_; have HO_285001 := n2_; have HO_293000 := n3_; have HO_293001 := n4_; have HO_300000 := n5_; have HO_300001 := n6_; have BK274 := n7_; have BK284 := n8_; have BK292 := n9_; have BK299 := n10_; have HB := n11_; clear n0_ n1_ n2_ n3_ n4_ n5_ n6_ n7_ n8_ n9_ n10_ n11_; (try clear hb); (try clear hb2); (try clear hk); (try clear hi))))
                   go_ret
                   exact ⟨by first | rfl | (simp [errW_none, errW_some] <;> rfl) | (simp [*, errW_none, errW_some] <;> rfl), by repeat (first | (with_reducible first | exact HB.out | apply below_alloc | apply pw_below_drewN | apply below_drew1 | refine below_set ?_ GE274.out | refine below_set ?_ GE284.out | refine below_set ?_ GE292.out | refine below_set ?_ GE299.out) | exact HB.out)⟩
                 ·replace c113 := Bool.eq_false_iff.mpr c113
                  subst c113
                  have H1 : (none) = some r := by rw [if_neg (show ¬ (false = true) by decide)] at H; exact H
                  clear H
                  have H := H1
                  clear H1
                  exact absurd H (by simp)
                ·rw [if_neg c111] at H
                 have c111b0 : (t291 == 0) = false := beq_eq_false_iff_ne.mpr c111
                 (try (have cX_ : t312 = false := (by decide : ∀ q_ t_ : Bool, (q_ == t_) = true → q_ = false → t_ = false) _ _ c110b0 c111b0))
                 have c111b1 : (t291 != 0) = true := bne_iff_ne.mpr c111
                 replace H := Option.bind_eq_some_iff.mp H
                 obtain ⟨t315, A1270, H⟩ := H
                 replace H : (some t315) = some r := H
                 have A127 := Aside0.mk A1270
                 clear A1270
                 as_aux_lemma =>
                  obtain rfl := Option.some.inj H
                  have hnb128 := NB274_284.out
                  have hnc128 := NB284_274.out
                  have hnb129 := NB274_292.out
                  have hnc129 := NB292_274.out
                  have hnb130 := NB274_299.out
                  have hnc130 := NB299_274.out
                  have hcz131_0 : wr.cell? ⟨gb274, 0, none⟩ = some (.slice A0_0 l0_0.length c0_0) := (blk_cell BK274.out 0).trans rfl
                  have hcz131_1 : wr.cell? ⟨gb274, 1, none⟩ = some (.slice A0_1 l0_1.length c0_1) := (blk_cell BK274.out 1).trans rfl
                  have hfz131_0 := blk_frozen BK274.out 0
                  have hfz131_1 := blk_frozen BK274.out 1
                  iterate 7 (first | go_quiet (first | ((with_reducible refine gate_callee (f := 14) rfl ?_); refine goesL_ (some 130) rfl rfl Try.func14 (by kernel_rfl) rfl #[.agg #[.slice A0_0 l0_0.length c0_0, .slice A0_1 l0_1.length c0_1]] rfl (by (try simp only [List.map_toArray, List.map_cons, List.map_nil]); first | done | rfl | (simp only [List.length_drop, List.length_take]; rfl)) ?_; (with_reducible refine (athanorlaw04_right.calls k4 _ _ l0_0 _ _ l0_1 t312 _ ?side1 ?side2 ?side3 ?side4 A109.out).mono ?_); (case side1 => repeat (first | exact (Kd.C_below HR0_0.out HB.out) | (with_reducible refine Kd.C_alloc ?_ _) | (with_reducible refine Kd.C_drewN ?_ _) | (with_reducible refine Kd.C_drew ?_))); (case side2 => exact HC0_0.out); (case side3 => repeat (first | exact (Kd.C_below HR0_1.out HB.out) | (with_reducible refine Kd.C_alloc ?_ _) | (with_reducible refine Kd.C_drewN ?_ _) | (with_reducible refine Kd.C_drew ?_))); (case side4 => exact HC0_1.out); rintro e w132 ⟨rfl, hb⟩; refine ⟨_, rfl, ?_⟩; have n0_ := Aside0.mk (Kd.R_below (by (with_reducible repeat (first | apply Kd.R_alloc | apply Kd.R_drewN | apply Kd.R_drew)); exact HO_117.out) hb); have n1_ := Aside0.mk (Kd.R_below (by (with_reducible repeat (first | apply Kd.R_alloc | apply Kd.R_drewN | apply Kd.R_drew)); exact HO_285000.out) hb); have n2_ := Aside0.mk (Kd.R_below (by (with_reducible repeat (first | apply Kd.R_alloc | apply Kd.R_drewN | apply Kd.R_drew)); exact HO_285001.out) hb); have n3_ := Aside0.mk (Kd.R_below (by (with_reducible repeat (first | apply Kd.R_alloc | apply Kd.R_drewN | apply Kd.R_drew)); exact HO_293000.out) hb); have n4_ := Aside0.mk (Kd.R_below (by (with_reducible repeat (first | apply Kd.R_alloc | apply Kd.R_drewN | apply Kd.R_drew)); exact HO_293001.out) hb); have n5_ := Aside0.mk (Kd.R_below (by (with_reducible repeat (first | apply Kd.R_alloc | apply Kd.R_drewN | apply Kd.R_drew)); exact HO_300000.out) hb); have n6_ := Aside0.mk (Kd.R_below (by (with_reducible repeat (first | apply Kd.R_alloc | apply Kd.R_drewN | apply Kd.R_drew)); exact HO_300001.out) hb); have n7_ := Aside0.mk (blk_below (g := gb274) (o := .cells #[.slice A0_0 l0_0.length c0_0, .slice A0_1 l0_1.length c0_1] 26 (0, 0)) (by (with_reducible repeat (first | refine blk_drewN ?_ _ | refine blk_drew ?_ | refine blk_alloc ?_ _)); exact BK274.out) hb); have n8_ := Aside0.mk (blk_below (g := gb284) (o := .cells #[.slice Ao15 t277.length co15, .slice Ao104 x285001_2.length co104] 26 (0, 0)) (by (with_reducible repeat (first | refine blk_drewN ?_ _ | refine blk_drew ?_ | refine blk_alloc ?_ _)); exact BK284.out) hb); have n9_ := Aside0.mk (blk_below (g := gb292) (o := .cells #[.slice Ao22 t285.length co22, u293001] 26 (0, 0)) (by (with_reducible repeat (first | refine blk_drewN ?_ _ | refine blk_drew ?_ | refine blk_alloc ?_ _)); exact BK292.out) hb); have n10_ := Aside0.mk (blk_below (g := gb299) (o := .cells #[.slice Ao30 t293.length co30, u300001] 26 (0, 0)) (by (with_reducible repeat (first | refine blk_drewN ?_ _ | refine blk_drew ?_ | refine blk_alloc ?_ _)); exact BK299.out) hb); have n11_ := Aside0.mk (below_step (by repeat (first | (with_reducible first | exact HB.out | apply below_alloc | apply pw_below_drewN | apply below_drew1 | refine below_set ?_ GE274.out | refine below_set ?_ GE284.out | refine below_set ?_ GE292.out | refine below_set ?_ GE299.out) | exact HB.out)) hb); clear HO_117; clear HO_285000; clear HO_285001; clear HO_293000; clear HO_293001; clear HO_300000; clear HO_300001; clear BK274; clear BK284; clear BK292; clear BK299; clear HB; have HO_117 := n0_; have HO_285000 := n1_; have HO_285001 := n2_; have HO_293000 := n3_; have HO_293001 := n4_; have HO_300000 := n5_; have HO_300001 := n6_; have BK274 := n7_; have BK284 := n8_; have BK292 := n9_; have BK299 := n10_; have HB := n11_; clear n0_ n1_ n2_ n3_ n4_ n5_ n6_ n7_ n8_ n9_ n10_ n11_; (try clear hb); (try clear hb2); (try clear hk); (try clear hi)) | (go_at_call 9; (with_reducible refine (athanorlaw04_awake.calls k4  t315 _ A127.out).mono ?_); rintro e w133 ⟨rfl, hb⟩; have n0_ := Aside0.mk (Kd.R_below (by (with_reducible repeat (first | apply Kd.R_alloc | apply Kd.R_drewN | apply Kd.R_drew)); exact HO_117.out) hb); have n1_ := Aside0.mk (Kd.R_below (by (with_reducible repeat (first | apply Kd.R_alloc | apply Kd.R_drewN | apply Kd.R_drew)); exact HO_285000.out) hb); have n2_ := Aside0.mk (Kd.R_below (by (with_reducible repeat (first | apply Kd.R_alloc | apply Kd.R_drewN | apply Kd.R_drew)); exact HO_285001.out) hb); have n3_ := Aside0.mk (Kd.R_below (by (with_reducible repeat (first | apply Kd.R_alloc | apply Kd.R_drewN | apply Kd.R_drew)); exact HO_293000.out) hb); have n4_ := Aside0.mk (Kd.R_below (by (with_reducible repeat (first | apply Kd.R_alloc | apply Kd.R_drewN | apply Kd.R_drew)); exact HO_293001.out) hb); have n5_ := Aside0.mk (Kd.R_below (by (with_reducible repeat (first | apply Kd.R_alloc | apply Kd.R_drewN | apply Kd.R_drew)); exact HO_300000.out) hb); have n6_ := Aside0.mk (Kd.R_below (by (with_reducible repeat (first | apply Kd.R_alloc | apply Kd.R_drewN | apply Kd.R_drew)); exact HO_300001.out) hb); have n7_ := Aside0.mk (blk_below (g := gb274) (o := .cells #[.slice A0_0 l0_0.length c0_0, .slice A0_1 l0_1.length c0_1] 26 (0, 0)) (by (with_reducible repeat (first | refine blk_drewN ?_ _ | refine blk_drew ?_ | refine blk_alloc ?_ _)); exact BK274.out) hb); have n8_ := Aside0.mk (blk_below (g := gb284) (o := .cells #[.slice Ao15 t277.length co15, .slice Ao104 x285001_2.length co104] 26 (0, 0)) (by (with_reducible repeat (first | refine blk_drewN ?_ _ | refine blk_drew ?_ | refine blk_alloc ?_ _)); exact BK284.out) hb); have n9_ := Aside0.mk (blk_below (g := gb292) (o := .cells #[.slice Ao22 t285.length co22, u293001] 26 (0, 0)) (by (with_reducible repeat (first | refine blk_drewN ?_ _ | refine blk_drew ?_ | refine blk_alloc ?_ _)); exact BK292.out) hb); have n10_ := Aside0.mk (blk_below (g := gb299) (o := .cells #[.slice Ao30 t293.length co30, u300001] 26 (0, 0)) (by (with_reducible repeat (first | refine blk_drewN ?_ _ | refine blk_drew ?_ | refine blk_alloc ?_ _)); exact BK299.out) hb); have n11_ := Aside0.mk (below_step (by repeat (first | (with_reducible first | exact HB.out | apply below_alloc | apply pw_below_drewN | apply below_drew1 | refine below_set ?_ GE274.out | refine below_set ?_ GE284.out | refine below_set ?_ GE292.out | refine below_set ?_ GE299.out) | exact HB.out)) hb); clear HO_117; clear HO_285000; clear HO_285001; clear HO_293000; clear HO_293001; clear HO_300000; clear HO_300001; clear BK274; clear BK284; clear BK292; clear BK299; clear HB; have HO_117 := n0_; have HO_285000 := n1_; have HO_285001 := n2_; have HO_293000 := n3_; have HO_293001 := n4_; have HO_300000 := n5_; have HO_300001 := n6_; have BK274 := n7_; have BK284 := n8_; have BK292 := n9_; have BK299 := n10_; have HB := n11_; clear n0_ n1_ n2_ n3_ n4_ n5_ n6_ n7_ n8_ n9_ n10_ n11_; (try clear hb); (try clear hb2); (try clear hk); (try clear hi))) | try go_wp2_with (first | ((with_reducible refine gate_callee (f := 14) rfl ?_); refine goesL_ (some 130) rfl rfl Try.func14 (by kernel_rfl) rfl #[.agg #[.slice A0_0 l0_0.length c0_0, .slice A0_1 l0_1.length c0_1]] rfl (by (try simp only [List.map_toArray, List.map_cons, List.map_nil]); first | done | rfl | (simp only [List.length_drop, List.length_take]; rfl)) ?_; (with_reducible refine (athanorlaw04_right.calls k4 _ _ l0_0 _ _ l0_1 t312 _ ?side1 ?side2 ?side3 ?side4 A109.out).mono ?_); (case side1 => repeat (first | exact (Kd.C_below HR0_0.out HB.out) | (with_reducible refine Kd.C_alloc ?_ _) | (with_reducible refine Kd.C_drewN ?_ _) | (with_reducible refine Kd.C_drew ?_))); (case side2 => exact HC0_0.out); (case side3 => repeat (first | exact (Kd.C_below HR0_1.out HB.out) | (with_reducible refine Kd.C_alloc ?_ _) | (with_reducible refine Kd.C_drewN ?_ _) | (with_reducible refine Kd.C_drew ?_))); (case side4 => exact HC0_1.out); rintro e w132 ⟨rfl, hb⟩; refine ⟨_, rfl, ?_⟩; have n0_ := Aside0.mk (Kd.R_below (by (with_reducible repeat (first | apply Kd.R_alloc | apply Kd.R_drewN | apply Kd.R_drew)); exact HO_117.out) hb); have n1_ := Aside0.mk (Kd.R_below (by (with_reducible repeat (first | apply Kd.R_alloc | apply Kd.R_drewN | apply Kd.R_drew)); exact HO_285000.out) hb); have n2_ := Aside0.mk (Kd.R_below (by (with_reducible repeat (first | apply Kd.R_alloc | apply Kd.R_drewN | apply Kd.R_drew)); exact HO_285001.out) hb); have n3_ := Aside0.mk (Kd.R_below (by (with_reducible repeat (first | apply Kd.R_alloc | apply Kd.R_drewN | apply Kd.R_drew)); exact HO_293000.out) hb); have n4_ := Aside0.mk (Kd.R_below (by (with_reducible repeat (first | apply Kd.R_alloc | apply Kd.R_drewN | apply Kd.R_drew)); exact HO_293001.out) hb); have n5_ := Aside0.mk (Kd.R_below (by (with_reducible repeat (first | apply Kd.R_alloc | apply Kd.R_drewN | apply Kd.R_drew)); exact HO_300000.out) hb); have n6_ := Aside0.mk (Kd.R_below (by (with_reducible repeat (first | apply Kd.R_alloc | apply Kd.R_drewN | apply Kd.R_drew)); exact HO_300001.out) hb); have n7_ := Aside0.mk (blk_below (g := gb274) (o := .cells #[.slice A0_0 l0_0.length c0_0, .slice A0_1 l0_1.length c0_1] 26 (0, 0)) (by (with_reducible repeat (first | refine blk_drewN ?_ _ | refine blk_drew ?_ | refine blk_alloc ?_ _)); exact BK274.out) hb); have n8_ := Aside0.mk (blk_below (g := gb284) (o := .cells #[.slice Ao15 t277.length co15, .slice Ao104 x285001_2.length co104] 26 (0, 0)) (by (with_reducible repeat (first | refine blk_drewN ?_ _ | refine blk_drew ?_ | refine blk_alloc ?_ _)); exact BK284.out) hb); have n9_ := Aside0.mk (blk_below (g := gb292) (o := .cells #[.slice Ao22 t285.length co22, u293001] 26 (0, 0)) (by (with_reducible repeat (first | refine blk_drewN ?_ _ | refine blk_drew ?_ | refine blk_alloc ?_ _)); exact BK292.out) hb); have n10_ := Aside0.mk (blk_below (g := gb299) (o := .cells #[.slice Ao30 t293.length co30, u300001] 26 (0, 0)) (by (with_reducible repeat (first | refine blk_drewN ?_ _ | refine blk_drew ?_ | refine blk_alloc ?_ _)); exact BK299.out) hb); have n11_ := Aside0.mk (below_step (by repeat (first | (with_reducible first | exact HB.out | apply below_alloc | apply pw_below_drewN | apply below_drew1 | refine below_set ?_ GE274.out | refine below_set ?_ GE284.out | refine below_set ?_ GE292.out | refine below_set ?_ GE299.out) | exact HB.out)) hb); clear HO_117; clear HO_285000; clear HO_285001; clear HO_293000; clear HO_293001; clear HO_300000; clear HO_300001; clear BK274; clear BK284; clear BK292; clear BK299; clear HB; have HO_117 := n0_; have HO_285000 := n1_; have HO_285001 := n2_; have HO_293000 := n3_; have HO_293001 := n4_; have HO_300000 := n5_; have HO_300001 := n6_; have BK274 := n7_; have BK284 := n8_; have BK292 := n9_; have BK299 := n10_; have HB := n11_; clear n0_ n1_ n2_ n3_ n4_ n5_ n6_ n7_ n8_ n9_ n10_ n11_; (try clear hb); (try clear hb2); (try clear hk); (try clear hi)) | (go_at_call 9; (with_reducible refine (athanorlaw04_awake.calls k4  t315 _ A127.out).mono ?_); rintro e w133 ⟨rfl, hb⟩; have n0_ := Aside0.mk (Kd.R_below (by (with_reducible repeat (first | apply Kd.R_alloc | apply Kd.R_drewN | apply Kd.R_drew)); exact HO_117.out) hb); have n1_ := Aside0.mk (Kd.R_below (by (with_reducible repeat (first | apply Kd.R_alloc | apply Kd.R_drewN | apply Kd.R_drew)); exact HO_285000.out) hb); have n2_ := Aside0.mk (Kd.R_below (by (with_reducible repeat (first | apply Kd.R_alloc | apply Kd.R_drewN | apply Kd.R_drew)); exact HO_285001.out) hb); have n3_ := Aside0.mk (Kd.R_below (by (with_reducible repeat (first | apply Kd.R_alloc | apply Kd.R_drewN | apply Kd.R_drew)); exact HO_293000.out) hb); have n4_ := Aside0.mk (Kd.R_below (by (with_reducible repeat (first | apply Kd.R_alloc | apply Kd.R_drewN | apply Kd.R_drew)); exact HO_293001.out) hb); have n5_ := Aside0.mk (Kd.R_below (by (with_reducible repeat (first | apply Kd.R_alloc | apply Kd.R_drewN | apply Kd.R_drew)); exact HO_300000.out) hb); have n6_ := Aside0.mk (Kd.R_below (by (with_reducible repeat (first | apply Kd.R_alloc | apply Kd.R_drewN | apply Kd.R_drew)); exact HO_300001.out) hb); have n7_ := Aside0.mk (blk_below (g := gb274) (o := .cells #[.slice A0_0 l0_0.length c0_0, .slice A0_1 l0_1.length c0_1] 26 (0, 0)) (by (with_reducible repeat (first | refine blk_drewN ?_ _ | refine blk_drew ?_ | refine blk_alloc ?_ _)); exact BK274.out) hb); have n8_ := Aside0.mk (blk_below (g := gb284) (o := .cells #[.slice Ao15 t277.length co15, .slice Ao104 x285001_2.length co104] 26 (0, 0)) (by (with_reducible repeat (first | refine blk_drewN ?_ _ | refine blk_drew ?_ | refine blk_alloc ?_ _)); exact BK284.out) hb); have n9_ := Aside0.mk (blk_below (g := gb292) (o := .cells #[.slice Ao22 t285.length co22, u293001] 26 (0, 0)) (by (with_reducible repeat (first | refine blk_drewN ?_ _ | refine blk_drew ?_ | refine blk_alloc ?_ _)); exact BK292.out) hb); have n10_ := Aside0.mk (blk_below (g := gb299) (o := .cells #[.slice Ao30 t293.length co30, u300001] 26 (0, 0)) (by (with_reducible repeat (first | refine blk_drewN ?_ _ | refine blk_drew ?_ | refine blk_alloc ?_ _)); exact BK299.out) hb); have n11_ := Aside0.mk (below_step (by repeat (first | (with_reducible first | exact HB.out | apply below_alloc | apply pw_below_drewN | apply below_drew1 | refine below_set ?_ GE274.out | refine below_set ?_ GE284.out | refine below_set ?_ GE292.out | refine below_set ?_ GE299.out) | exact HB.out)) hb); clear HO_117; clear HO_285000; clear HO_285001; clear HO_293000; clear HO_293001; clear HO_300000; clear HO_300001; clear BK274; clear BK284; clear BK292; clear BK299; clear HB; have HO_117 := n0_; have HO_285000 := n1_; have HO_285001 := n2_; have HO_293000 := n3_; have HO_293001 := n4_; have HO_300000 := n5_; have HO_300001 := n6_; have BK274 := n7_; have BK284 := n8_; have BK292 := n9_; have BK299 := n10_; have HB := n11_; clear n0_ n1_ n2_ n3_ n4_ n5_ n6_ n7_ n8_ n9_ n10_ n11_; (try clear hb); (try clear hb2); (try clear hk); (try clear hi))))
                  go_ret
                  exact ⟨by first | rfl | (simp [errW_none, errW_some] <;> rfl) | (simp [*, errW_none, errW_some] <;> rfl), by repeat (first | (with_reducible first | exact HB.out | apply below_alloc | apply pw_below_drewN | apply below_drew1 | refine below_set ?_ GE274.out | refine below_set ?_ GE284.out | refine below_set ?_ GE292.out | refine below_set ?_ GE299.out) | exact HB.out)⟩
               ·rw [if_neg c110] at H
                exact absurd H (by simp)
        ·replace c73 := Bool.eq_false_iff.mpr c73
         subst c73
         have H1 : (if t283 = 20 then (if t291 = 20 then (if (x285001_2.length : Int) = 0 then ((athanorlaw04_awake.f k2).bind fun t308 => (some t308)) else (none)) else (none)) else (none)) = some r := by rw [if_neg (show ¬ (false = true) by decide)] at H; exact H
         clear H
         have H := H1
         clear H1
         by_cases c134 : t283 = 20
         ·rw [if_pos c134] at H
          have c134b0 : (t283 == 20) = true := beq_iff_eq.mpr c134
          have c134b1 : (t283 != 20) = false := bne_eq_false_iff_eq.mpr c134
          clear c134
          by_cases c135 : t291 = 20
          ·rw [if_pos c135] at H
           have c135b0 : (t291 == 20) = true := beq_iff_eq.mpr c135
           have c135b1 : (t291 != 20) = false := bne_eq_false_iff_eq.mpr c135
           clear c135
           by_cases c136 : (x285001_2.length : Int) = 0
           ·rw [if_pos c136] at H
            have c136b0 : ((x285001_2.length : Int) == 0) = true := beq_iff_eq.mpr c136
            have c136b1 : ((x285001_2.length : Int) != 0) = false := bne_eq_false_iff_eq.mpr c136
            clear c136
            replace H := Option.bind_eq_some_iff.mp H
            obtain ⟨t308, A1370, H⟩ := H
            replace H : (some t308) = some r := H
            have A137 := Aside0.mk A1370
            clear A1370
            as_aux_lemma =>
             obtain rfl := Option.some.inj H
             have hnb138 := NB274_284.out
             have hnc138 := NB284_274.out
             have hnb139 := NB274_292.out
             have hnc139 := NB292_274.out
             have hnb140 := NB274_299.out
             have hnc140 := NB299_274.out
             have hcz141_0 : wr.cell? ⟨gb274, 0, none⟩ = some (.slice A0_0 l0_0.length c0_0) := (blk_cell BK274.out 0).trans rfl
             have hcz141_1 : wr.cell? ⟨gb274, 1, none⟩ = some (.slice A0_1 l0_1.length c0_1) := (blk_cell BK274.out 1).trans rfl
             have hfz141_0 := blk_frozen BK274.out 0
             have hfz141_1 := blk_frozen BK274.out 1
             iterate 7 (first | go_quiet (first | ((with_reducible refine gate_callee (f := 16) rfl ?_); refine goesL_ (some 80) rfl rfl Try.func16 (by kernel_rfl) rfl #[.slice A0_0 l0_0.length c0_0] rfl (by (try simp only [List.map_toArray, List.map_cons, List.map_nil]); first | done | rfl | (simp only [List.length_drop, List.length_take]; rfl)) ?_; (with_reducible refine (athanorref03_Right.calls k2 _ _ l0_0 false _ ?side1 ?side2 A72.out).mono ?_); (case side1 => repeat (first | exact (Kd.C_below HR0_0.out HB.out) | (with_reducible refine Kd.C_alloc ?_ _) | (with_reducible refine Kd.C_drewN ?_ _) | (with_reducible refine Kd.C_drew ?_))); (case side2 => exact HC0_0.out); rintro e w' ⟨rfl, ⟨nd, rfl⟩⟩; refine ⟨_, rfl, ?_⟩; (try first | exact ⟨rfl, _, World.drewN_drewN _ _ _⟩ | exact ⟨rfl, _, Eq.trans (World.drewN_drewN _ _ _) (congrArg (World.drewN _) (Nat.add_assoc _ _ _))⟩); have hnb142 := NB284_292.out; have hnc142 := NB292_284.out; have hnb143 := NB284_299.out; have hnc143 := NB299_284.out; have hcz144_0 : wr.cell? ⟨gb284, 0, none⟩ = some (.slice Ao15 t277.length co15) := (blk_cell BK284.out 0).trans rfl; have hcz144_1 : wr.cell? ⟨gb284, 1, none⟩ = some (u285001) := (blk_cell BK284.out 1).trans rfl; have hfz144_0 := blk_frozen BK284.out 0; have hfz144_1 := blk_frozen BK284.out 1; obtain ⟨Ao145, co145, eo145⟩ := Kd.R_slice HO_285001.out; subst eo145) | (go_at_call 9; (with_reducible refine (athanorlaw04_awake.calls k2  t308 _ A137.out).mono ?_); rintro e w146 ⟨rfl, hb⟩; have n0_ := Aside0.mk (Kd.R_below (by (with_reducible repeat (first | apply Kd.R_alloc | apply Kd.R_drewN | apply Kd.R_drew)); exact HO_285000.out) hb); have n1_ := Aside0.mk (Kd.R_below (by (with_reducible repeat (first | apply Kd.R_alloc | apply Kd.R_drewN | apply Kd.R_drew)); exact HO_285001.out) hb); have n2_ := Aside0.mk (Kd.R_below (by (with_reducible repeat (first | apply Kd.R_alloc | apply Kd.R_drewN | apply Kd.R_drew)); exact HO_293000.out) hb); have n3_ := Aside0.mk (Kd.R_below (by (with_reducible repeat (first | apply Kd.R_alloc | apply Kd.R_drewN | apply Kd.R_drew)); exact HO_293001.out) hb); have n4_ := Aside0.mk (Kd.R_below (by (with_reducible repeat (first | apply Kd.R_alloc | apply Kd.R_drewN | apply Kd.R_drew)); exact HO_300000.out) hb); have n5_ := Aside0.mk (Kd.R_below (by (with_reducible repeat (first | apply Kd.R_alloc | apply Kd.R_drewN | apply Kd.R_drew)); exact HO_300001.out) hb); have n6_ := Aside0.mk (blk_below (g := gb274) (o := .cells #[.slice A0_0 l0_0.length c0_0, .slice A0_1 l0_1.length c0_1] 26 (0, 0)) (by (with_reducible repeat (first | refine blk_drewN ?_ _ | refine blk_drew ?_ | refine blk_alloc ?_ _)); exact BK274.out) hb); have n7_ := Aside0.mk (blk_below (g := gb284) (o := .cells #[.slice Ao15 t277.length co15, .slice Ao145 x285001_2.length co145] 26 (0, 0)) (by (with_reducible repeat (first | refine blk_drewN ?_ _ | refine blk_drew ?_ | refine blk_alloc ?_ _)); exact BK284.out) hb); have n8_ := Aside0.mk (blk_below (g := gb292) (o := .cells #[.slice Ao22 t285.length co22, u293001] 26 (0, 0)) (by (with_reducible repeat (first | refine blk_drewN ?_ _ | refine blk_drew ?_ | refine blk_alloc ?_ _)); exact BK292.out) hb); have n9_ := Aside0.mk (blk_below (g := gb299) (o := .cells #[.slice Ao30 t293.length co30, u300001] 26 (0, 0)) (by (with_reducible repeat (first | refine blk_drewN ?_ _ | refine blk_drew ?_ | refine blk_alloc ?_ _)); exact BK299.out) hb); have n10_ := Aside0.mk (below_step (by repeat (first | (with_reducible first | exact HB.out | apply below_alloc | apply pw_below_drewN | apply below_drew1 | refine below_set ?_ GE274.out | refine below_set ?_ GE284.out | refine below_set ?_ GE292.out | refine below_set ?_ GE299.out) | exact HB.out)) hb); clear HO_285000; clear HO_285001; clear HO_293000; clear HO_293001; clear HO_300000; clear HO_300001; clear BK274; clear BK284; clear BK292; clear BK299; clear HB; have HO_285000 := n0_; have HO_285001 := n1_; have HO_293000 := n2_; have HO_293001 := n3_; have HO_300000 := n4_; have HO_300001 := n5_; have BK274 := n6_; have BK284 := n7_; have BK292 := n8_; have BK299 := n9_; have HB := n10_; clear n0_ n1_ n2_ n3_ n4_ n5_ n6_ n7_ n8_ n9_ n10_; (try clear hb); (try clear hb2); (try clear hk); (try clear hi))) | try go_wp2_with (first | ((with_reducible refine gate_callee (f := 16) rfl ?_); refine goesL_ (some 80) rfl rfl Try.func16 (by kernel_rfl) rfl #[.slice A0_0 l0_0.length c0_0] rfl (by (try simp only [List.map_toArray, List.map_cons, List.map_nil]); first | done | rfl | (simp only [List.length_drop, List.length_take]; rfl)) ?_; (with_reducible refine (athanorref03_Right.calls k2 _ _ l0_0 false _ ?side1 ?side2 A72.out).mono ?_); (case side1 => repeat (first | exact (Kd.C_below HR0_0.out HB.out) | (with_reducible refine Kd.C_alloc ?_ _) | (with_reducible refine Kd.C_drewN ?_ _) | (with_reducible refine Kd.C_drew ?_))); (case side2 => exact HC0_0.out); rintro e w' ⟨rfl, ⟨nd, rfl⟩⟩; refine ⟨_, rfl, ?_⟩; (try first | exact ⟨rfl, _, World.drewN_drewN _ _ _⟩ | exact ⟨rfl, _, Eq.trans (World.drewN_drewN _ _ _) (congrArg (World.drewN _) (Nat.add_assoc _ _ _))⟩); have hnb142 := NB284_292.out; have hnc142 := NB292_284.out; have hnb143 := NB284_299.out; have hnc143 := NB299_284.out; have hcz144_0 : wr.cell? ⟨gb284, 0, none⟩ = some (.slice Ao15 t277.length co15) := (blk_cell BK284.out 0).trans rfl; have hcz144_1 : wr.cell? ⟨gb284, 1, none⟩ = some (u285001) := (blk_cell BK284.out 1).trans rfl; have hfz144_0 := blk_frozen BK284.out 0; have hfz144_1 := blk_frozen BK284.out 1; obtain ⟨Ao145, co145, eo145⟩ := Kd.R_slice HO_285001.out; subst eo145) | (go_at_call 9; (with_reducible refine (athanorlaw04_awake.calls k2  t308 _ A137.out).mono ?_); rintro e w146 ⟨rfl, hb⟩; have n0_ := Aside0.mk (Kd.R_below (by (with_reducible repeat (first | apply Kd.R_alloc | apply Kd.R_drewN | apply Kd.R_drew)); exact HO_285000.out) hb); have n1_ := Aside0.mk (Kd.R_below (by (with_reducible repeat (first | apply Kd.R_alloc | apply Kd.R_drewN | apply Kd.R_drew)); exact HO_285001.out) hb); have n2_ := Aside0.mk (Kd.R_below (by (with_reducible repeat (first | apply Kd.R_alloc | apply Kd.R_drewN | apply Kd.R_drew)); exact HO_293000.out) hb); have n3_ := Aside0.mk (Kd.R_below (by (with_reducible repeat (first | apply Kd.R_alloc | apply Kd.R_drewN | apply Kd.R_drew)); exact HO_293001.out) hb); have n4_ := Aside0.mk (Kd.R_below (by (with_reducible repeat (first | apply Kd.R_alloc | apply Kd.R_drewN | apply Kd.R_drew)); exact HO_300000.out) hb); have n5_ := Aside0.mk (Kd.R_below (by (with_reducible repeat (first | apply Kd.R_alloc | apply Kd.R_drewN | apply Kd.R_drew)); exact HO_300001.out) hb); have n6_ := Aside0.mk (blk_below (g := gb274) (o := .cells #[.slice A0_0 l0_0.length c0_0, .slice A0_1 l0_1.length c0_1] 26 (0, 0)) (by (with_reducible repeat (first | refine blk_drewN ?_ _ | refine blk_drew ?_ | refine blk_alloc ?_ _)); exact BK274.out) hb); have n7_ := Aside0.mk (blk_below (g := gb284) (o := .cells #[.slice Ao15 t277.length co15, .slice Ao145 x285001_2.length co145] 26 (0, 0)) (by (with_reducible repeat (first | refine blk_drewN ?_ _ | refine blk_drew ?_ | refine blk_alloc ?_ _)); exact BK284.out) hb); have n8_ := Aside0.mk (blk_below (g := gb292) (o := .cells #[.slice Ao22 t285.length co22, u293001] 26 (0, 0)) (by (with_reducible repeat (first | refine blk_drewN ?_ _ | refine blk_drew ?_ | refine blk_alloc ?_ _)); exact BK292.out) hb); have n9_ := Aside0.mk (blk_below (g := gb299) (o := .cells #[.slice Ao30 t293.length co30, u300001] 26 (0, 0)) (by (with_reducible repeat (first | refine blk_drewN ?_ _ | refine blk_drew ?_ | refine blk_alloc ?_ _)); exact BK299.out) hb); have n10_ := Aside0.mk (below_step (by repeat (first | (with_reducible first | exact HB.out | apply below_alloc | apply pw_below_drewN | apply below_drew1 | refine below_set ?_ GE274.out | refine below_set ?_ GE284.out | refine below_set ?_ GE292.out | refine below_set ?_ GE299.out) | exact HB.out)) hb); clear HO_285000; clear HO_285001; clear HO_293000; clear HO_293001; clear HO_300000; clear HO_300001; clear BK274; clear BK284; clear BK292; clear BK299; clear HB; have HO_285000 := n0_; have HO_285001 := n1_; have HO_293000 := n2_; have HO_293001 := n3_; have HO_300000 := n4_; have HO_300001 := n5_; have BK274 := n6_; have BK284 := n7_; have BK292 := n8_; have BK299 := n9_; have HB := n10_; clear n0_ n1_ n2_ n3_ n4_ n5_ n6_ n7_ n8_ n9_ n10_; (try clear hb); (try clear hb2); (try clear hk); (try clear hi))))
             go_ret
             exact ⟨by first | rfl | (simp [errW_none, errW_some] <;> rfl) | (simp [*, errW_none, errW_some] <;> rfl), by repeat (first | (with_reducible first | exact HB.out | apply below_alloc | apply pw_below_drewN | apply below_drew1 | refine below_set ?_ GE274.out | refine below_set ?_ GE284.out | refine below_set ?_ GE292.out | refine below_set ?_ GE299.out) | exact HB.out)⟩
           ·rw [if_neg c136] at H
            exact absurd H (by simp)
          ·rw [if_neg c135] at H
           exact absurd H (by simp)
         ·rw [if_neg c134] at H
          exact absurd H (by simp)
 ·replace c4 := Bool.eq_false_iff.mpr c4
  subst c4
  have H1 : ((athanorlaw04_awake.f k).bind fun t276 => (some t276)) = some r := by rw [if_neg (show ¬ (false = true) by decide)] at H; exact H
  clear H
  have H := H1
  clear H1
  replace H := Option.bind_eq_some_iff.mp H
  obtain ⟨t276, A1470, H⟩ := H
  replace H : (some t276) = some r := H
  have A147 := Aside0.mk A1470
  clear A1470
  as_aux_lemma =>
   obtain rfl := Option.some.inj H
   go_enter Try.func3, Try.ntmps3
   iterate 7 (first | go_quiet (first | ((with_reducible refine gate_dst (N := 2) rfl ?_); (try (refine gate_guard (by rfl) ?_; dsimp only)); refine box_event ?hg (N := 2) ?hd (cs := #[.slice A0_0 l0_0.length c0_0, .slice A0_1 l0_1.length c0_1]) (t := 26) ?hr ?_; (case hd => rfl); (case hg => rfl); (case hr => first | (go_simp; done) | (go_simp; rfl)); intro gb274 hg w148 hbox hb; have n0_ := Aside0.mk (below_step (by repeat (first | (with_reducible first | exact HB.out | apply below_alloc | apply pw_below_drewN | apply below_drew1) | exact HB.out)) hb); have n1_ := Aside0.mk (hbox); have n2_ := Aside0.mk ((by rw [hg]; exact (below_size (by repeat (first | (with_reducible first | exact HB.out | apply below_alloc | apply pw_below_drewN | apply below_drew1) | exact HB.out))) : w.heap.size ≤ gb274)); have n3_ := Aside0.mk ((by rw [hg]; exact (below_size (by repeat (first | (with_reducible first | exact HB.out | apply below_alloc | apply pw_below_drewN | apply below_drew1) | exact HB.out))) : w.heap.size ≤ gb274)); clear HB; have HB := n0_; have BK274 := n1_; have GW274 := n2_; have GE274 := n3_; clear n0_ n1_ n2_ n3_; clear hb hbox hg; have hcz149_0 : w148.cell? ⟨gb274, 0, none⟩ = some (.slice A0_0 l0_0.length c0_0) := (blk_cell BK274.out 0).trans rfl; have hcz149_1 : w148.cell? ⟨gb274, 1, none⟩ = some (.slice A0_1 l0_1.length c0_1) := (blk_cell BK274.out 1).trans rfl; have hfz149_0 := blk_frozen BK274.out 0; have hfz149_1 := blk_frozen BK274.out 1) | ((with_reducible refine gate_callee (f := 8) rfl ?_); refine goesL_ (some 14) rfl rfl Try.func8 (by kernel_rfl) rfl #[.agg #[.slice A0_0 l0_0.length c0_0, .slice A0_1 l0_1.length c0_1]] rfl (by (try simp only [List.map_toArray, List.map_cons, List.map_nil]); first | done | rfl | (simp only [List.length_drop, List.length_take]; rfl)) ?_; (with_reducible refine (athanorlaw04_small.calls _ _ l0_0 _ _ l0_1 false _ ?side1 ?side2 ?side3 ?side4 A3.out).mono ?_); (case side1 => repeat (first | exact (Kd.C_below HR0_0.out HB.out) | (with_reducible refine Kd.C_alloc ?_ _) | (with_reducible refine Kd.C_drewN ?_ _) | (with_reducible refine Kd.C_drew ?_))); (case side2 => exact HC0_0.out); (case side3 => repeat (first | exact (Kd.C_below HR0_1.out HB.out) | (with_reducible refine Kd.C_alloc ?_ _) | (with_reducible refine Kd.C_drewN ?_ _) | (with_reducible refine Kd.C_drew ?_))); (case side4 => exact HC0_1.out); rintro e w150 ⟨rfl, hb⟩; refine ⟨_, rfl, ?_⟩; have n0_ := Aside0.mk (blk_below (g := gb274) (o := .cells #[.slice A0_0 l0_0.length c0_0, .slice A0_1 l0_1.length c0_1] 26 (0, 0)) (by (with_reducible repeat (first | refine blk_drewN ?_ _ | refine blk_drew ?_ | refine blk_alloc ?_ _)); exact BK274.out) hb); have n1_ := Aside0.mk (below_step (by repeat (first | (with_reducible first | exact HB.out | apply below_alloc | apply pw_below_drewN | apply below_drew1 | refine below_set ?_ GE274.out) | exact HB.out)) hb); clear BK274; clear HB; have BK274 := n0_; have HB := n1_; clear n0_ n1_; (try clear hb); (try clear hb2); (try clear hk); (try clear hi)) | ((with_reducible refine gate_callee (f := 9) rfl ?_); refine goesL_ (some 16) rfl rfl Try.func9 (by kernel_rfl) rfl #[] rfl (by (try simp only [List.map_toArray, List.map_cons, List.map_nil]); first | done | rfl | (simp only [List.length_drop, List.length_take]; rfl)) ?_; (with_reducible refine (athanorlaw04_awake.calls k  t276 _ A147.out).mono ?_); rintro e w151 ⟨rfl, hb⟩; refine ⟨_, rfl, ?_⟩; have n0_ := Aside0.mk (blk_below (g := gb274) (o := .cells #[.slice A0_0 l0_0.length c0_0, .slice A0_1 l0_1.length c0_1] 26 (0, 0)) (by (with_reducible repeat (first | refine blk_drewN ?_ _ | refine blk_drew ?_ | refine blk_alloc ?_ _)); exact BK274.out) hb); have n1_ := Aside0.mk (below_step (by repeat (first | (with_reducible first | exact HB.out | apply below_alloc | apply pw_below_drewN | apply below_drew1 | refine below_set ?_ GE274.out) | exact HB.out)) hb); clear BK274; clear HB; have BK274 := n0_; have HB := n1_; clear n0_ n1_; (try clear hb); (try clear hb2); (try clear hk); (try clear hi))) | try go_wp2_with (first | ((with_reducible refine gate_dst (N := 2) rfl ?_); (try (refine gate_guard (by rfl) ?_; dsimp only)); refine box_event ?hg (N := 2) ?hd (cs := #[.slice A0_0 l0_0.length c0_0, .slice A0_1 l0_1.length c0_1]) (t := 26) ?hr ?_; (case hd => rfl); (case hg => rfl); (case hr => first | (go_simp; done) | (go_simp; rfl)); intro gb274 hg w148 hbox hb; have n0_ := Aside0.mk (below_step (by repeat (first | (with_reducible first | exact HB.out | apply below_alloc | apply pw_below_drewN | apply below_drew1) | exact HB.out)) hb); have n1_ := Aside0.mk (hbox); have n2_ := Aside0.mk ((by rw [hg]; exact (below_size (by repeat (first | (with_reducible first | exact HB.out | apply below_alloc | apply pw_below_drewN | apply below_drew1) | exact HB.out))) : w.heap.size ≤ gb274)); have n3_ := Aside0.mk ((by rw [hg]; exact (below_size (by repeat (first | (with_reducible first | exact HB.out | apply below_alloc | apply pw_below_drewN | apply below_drew1) | exact HB.out))) : w.heap.size ≤ gb274)); clear HB; have HB := n0_; have BK274 := n1_; have GW274 := n2_; have GE274 := n3_; clear n0_ n1_ n2_ n3_; clear hb hbox hg; have hcz149_0 : w148.cell? ⟨gb274, 0, none⟩ = some (.slice A0_0 l0_0.length c0_0) := (blk_cell BK274.out 0).trans rfl; have hcz149_1 : w148.cell? ⟨gb274, 1, none⟩ = some (.slice A0_1 l0_1.length c0_1) := (blk_cell BK274.out 1).trans rfl; have hfz149_0 := blk_frozen BK274.out 0; have hfz149_1 := blk_frozen BK274.out 1) | ((with_reducible refine gate_callee (f := 8) rfl ?_); refine goesL_ (some 14) rfl rfl Try.func8 (by kernel_rfl) rfl #[.agg #[.slice A0_0 l0_0.length c0_0, .slice A0_1 l0_1.length c0_1]] rfl (by (try simp only [List.map_toArray, List.map_cons, List.map_nil]); first | done | rfl | (simp only [List.length_drop, List.length_take]; rfl)) ?_; (with_reducible refine (athanorlaw04_small.calls _ _ l0_0 _ _ l0_1 false _ ?side1 ?side2 ?side3 ?side4 A3.out).mono ?_); (case side1 => repeat (first | exact (Kd.C_below HR0_0.out HB.out) | (with_reducible refine Kd.C_alloc ?_ _) | (with_reducible refine Kd.C_drewN ?_ _) | (with_reducible refine Kd.C_drew ?_))); (case side2 => exact HC0_0.out); (case side3 => repeat (first | exact (Kd.C_below HR0_1.out HB.out) | (with_reducible refine Kd.C_alloc ?_ _) | (with_reducible refine Kd.C_drewN ?_ _) | (with_reducible refine Kd.C_drew ?_))); (case side4 => exact HC0_1.out); rintro e w150 ⟨rfl, hb⟩; refine ⟨_, rfl, ?_⟩; have n0_ := Aside0.mk (blk_below (g := gb274) (o := .cells #[.slice A0_0 l0_0.length c0_0, .slice A0_1 l0_1.length c0_1] 26 (0, 0)) (by (with_reducible repeat (first | refine blk_drewN ?_ _ | refine blk_drew ?_ | refine blk_alloc ?_ _)); exact BK274.out) hb); have n1_ := Aside0.mk (below_step (by repeat (first | (with_reducible first | exact HB.out | apply below_alloc | apply pw_below_drewN | apply below_drew1 | refine below_set ?_ GE274.out) | exact HB.out)) hb); clear BK274; clear HB; have BK274 := n0_; have HB := n1_; clear n0_ n1_; (try clear hb); (try clear hb2); (try clear hk); (try clear hi)) | ((with_reducible refine gate_callee (f := 9) rfl ?_); refine goesL_ (some 16) rfl rfl Try.func9 (by kernel_rfl) rfl #[] rfl (by (try simp only [List.map_toArray, List.map_cons, List.map_nil]); first | done | rfl | (simp only [List.length_drop, List.length_take]; rfl)) ?_; (with_reducible refine (athanorlaw04_awake.calls k  t276 _ A147.out).mono ?_); rintro e w151 ⟨rfl, hb⟩; refine ⟨_, rfl, ?_⟩; have n0_ := Aside0.mk (blk_below (g := gb274) (o := .cells #[.slice A0_0 l0_0.length c0_0, .slice A0_1 l0_1.length c0_1] 26 (0, 0)) (by (with_reducible repeat (first | refine blk_drewN ?_ _ | refine blk_drew ?_ | refine blk_alloc ?_ _)); exact BK274.out) hb); have n1_ := Aside0.mk (below_step (by repeat (first | (with_reducible first | exact HB.out | apply below_alloc | apply pw_below_drewN | apply below_drew1 | refine below_set ?_ GE274.out) | exact HB.out)) hb); clear BK274; clear HB; have BK274 := n0_; have HB := n1_; clear n0_ n1_; (try clear hb); (try clear hb2); (try clear hk); (try clear hi))))
   go_ret
   exact ⟨by first | rfl | (simp [errW_none, errW_some] <;> rfl) | (simp [*, errW_none, errW_some] <;> rfl), by repeat (first | (with_reducible first | exact HB.out | apply below_alloc | apply pw_below_drewN | apply below_drew1 | refine below_set ?_ GE274.out) | exact HB.out)⟩

/-- THE ONE PURE STATEMENT of athanorlaw04_TensorMakes: yours. -/
def athanorlaw04_TensorMakes.Pure : Prop := ∀ (x0 : S26) (x1 : Int), good26 x0 → (Lit.int .i64 x1).wf = true → ∃ k, athanorlaw04_TensorMakes.f k x0.f0 x0.f1 x1 = some true

end Go.Proofs.Ytmekcfmhaflghaa.PTen
