-- printed by wip/tools/xp.py of this project (not trusted: Lean checks it)
import Derived.Test.YtmekcfmhaflghaaPTenSx0
import Derived.Test.YtmekcfmhaflghaaPTenSx1
import Derived.Test.YtmekcfmhaflghaaPTenSx3
import Derived.Test.YtmekcfmhaflghaaPTenSx4
import Derived.Test.YtmekcfmhaflghaaPTenSx5
import Derived.Test.YtmekcfmhaflghaaPTenSx6
import Derived.Test.YtmekcfmhaflghaaPTenSx7
namespace Go.Proofs.Ytmekcfmhaflghaa.PTenS
open Go.RowKit Go.Proofs.YtmekcfmhaflghaaW.PrintWords Go.Proofs.YtmekcfmhaflghaaW.PrintLast Go.Proofs.YtmekcfmhaflghaaW.PrintMore Go.Proofs.Ytmekcfmhaflghaa.XW
attribute [local go_sem] max2_int min2_int max_two min_two max_three min_three max_four min_four max_five min_five   -- for this text's walks alone
set_option linter.unusedVariables false
set_option linter.unusedSimpArgs false

/-! ### athanorlaw04_TensorSums: function 5 -/
mutual
def athanorlaw04_TensorSums.j0 : Nat → Int → Bool → List Int → List Int → List Int → List Int → Int → Int → Int → Option (Bool)
 | 0, _, _, _, _, _, _, _, _, _ => none
 | k + 1, x1, x23, x328000, x328001, x328002, x328003, x328004, x328005, x328006 => if x23 = true then ((athanorlaw04_awake.f k).bind fun t330 => (some t330)) else ((tensor_Add.f k x328000 x328001 x328002 x328003).bind fun bt331 => ((tensor_Scale.f k x328000 x328001 x1).bind fun bt339 => ((tensor_Dot.f k x328000 x328001 x328002 x328003).bind fun bt347 => ((athanorlaw04_right.f k x328000 x328001).bind fun t349 => (if (t349 != (bt339.2.2 == 0)) = true then (athanorlaw04_TensorSums.j1 k x1 bt331.2.2 bt347.1 bt347.2 true x328000 x328001 x328002 x328003 x328004 x328005 x328006 bt331.1 bt331.2.1 bt339.1 bt339.2.1) else (if bt339.2.2 = 0 then (athanorlaw04_TensorSums.j1 k x1 bt331.2.2 bt347.1 bt347.2 false x328000 x328001 x328002 x328003 x328004 x328005 x328006 bt331.1 bt331.2.1 bt339.1 bt339.2.1) else (if bt339.2.2 = 20 then (athanorlaw04_TensorSums.j1 k x1 bt331.2.2 bt347.1 bt347.2 ((bt339.2.1.length : Int) != 0) x328000 x328001 x328002 x328003 x328004 x328005 x328006 bt331.1 bt331.2.1 bt339.1 bt339.2.1) else (athanorlaw04_TensorSums.j1 k x1 bt331.2.2 bt347.1 bt347.2 true x328000 x328001 x328002 x328003 x328004 x328005 x328006 bt331.1 bt331.2.1 bt339.1 bt339.2.1))))))))
def athanorlaw04_TensorSums.j1 : Nat → Int → Int → Int → Int → Bool → List Int → List Int → List Int → List Int → Int → Int → Int → List Int → List Int → List Int → List Int → Option (Bool)
 | 0, _, _, _, _, _, _, _, _, _, _, _, _, _, _, _, _ => none
 | k + 1, x1, x6, x9, x10, x67, x328000, x328001, x328002, x328003, x328004, x328005, x328006, x339000, x339001, x347000, x347001 => if x67 = true then (none) else (athanorlaw04_TensorSums.l0 k x1 x6 x9 x10 (x347001.length : Int) 0 x328000 x328001 x328002 x328003 x328004 x328005 x328006 x339000 x339001 x347000 x347001)
def athanorlaw04_TensorSums.l0 : Nat → Int → Int → Int → Int → Int → Int → List Int → List Int → List Int → List Int → Int → Int → Int → List Int → List Int → List Int → List Int → Option (Bool)
 | 0, _, _, _, _, _, _, _, _, _, _, _, _, _, _, _, _, _ => none
 | k + 1, x1, x6, x9, x10, x70, x71, x328000, x328001, x328002, x328003, x328004, x328005, x328006, x339000, x339001, x347000, x347001 => if x71 < x70 then (if x71 ≥ (x328001.length : Int) then (none) else (if 0 ≤ x71 then (if x71 < (x347001.length : Int) then (if x71 < (x328001.length : Int) then ((athanorref01_Mul.f k (rd x328001 x71) x1).bind fun t352 => (if (rd x347001 x71) = t352 then (athanorlaw04_TensorSums.l0 k x1 x6 x9 x10 x70 (wrap64 (x71 + 1)) x328000 x328001 x328002 x328003 x328004 x328005 x328006 x339000 x339001 x347000 x347001) else (none))) else (none)) else (none)) else (none))) else ((athanorlaw04_right.f k x328000 x328001).bind fun t353 => (if t353 = true then ((athanorlaw04_right.f k x328002 x328003).bind fun t354 => (if t354 = true then ((athanorref03_Same.f k x328000 x328002).bind fun t355 => (athanorlaw04_TensorSums.j3 k x6 x9 x10 (!t355) x328000 x328001 x328002 x328003 x328004 x328005 x328006 x339000 x339001 x347000 x347001)) else (athanorlaw04_TensorSums.j3 k x6 x9 x10 true x328000 x328001 x328002 x328003 x328004 x328005 x328006 x339000 x339001 x347000 x347001))) else (athanorlaw04_TensorSums.j3 k x6 x9 x10 true x328000 x328001 x328002 x328003 x328004 x328005 x328006 x339000 x339001 x347000 x347001)))
def athanorlaw04_TensorSums.j3 : Nat → Int → Int → Int → Bool → List Int → List Int → List Int → List Int → Int → Int → Int → List Int → List Int → List Int → List Int → Option (Bool)
 | 0, _, _, _, _, _, _, _, _, _, _, _, _, _, _, _ => none
 | k + 1, x6, x9, x10, x116, x328000, x328001, x328002, x328003, x328004, x328005, x328006, x339000, x339001, x347000, x347001 => if x116 = true then (if x6 = 20 then (if x10 = 20 then (if (x339001.length : Int) = 0 then (if x9 = 0 then ((athanorlaw04_awake.f k).bind fun t356 => (some t356)) else (none)) else (none)) else (none)) else (none)) else (if (x339001.length : Int) = (x328001.length : Int) then (athanorlaw04_TensorSums.j4 k x6 x9 x10 0 ((x347001.length : Int) != (x328001.length : Int)) x328000 x328001 x328002 x328003 x328004 x328005 x328006 x339000 x339001) else (athanorlaw04_TensorSums.j4 k x6 x9 x10 0 true x328000 x328001 x328002 x328003 x328004 x328005 x328006 x339000 x339001))
def athanorlaw04_TensorSums.j4 : Nat → Int → Int → Int → Int → Bool → List Int → List Int → List Int → List Int → Int → Int → Int → List Int → List Int → Option (Bool)
 | 0, _, _, _, _, _, _, _, _, _, _, _, _, _, _ => none
 | k + 1, x6, x9, x10, x12, x153, x328000, x328001, x328002, x328003, x328004, x328005, x328006, x339000, x339001 => if x153 = true then (none) else (athanorlaw04_TensorSums.l1 k x6 x9 x10 x12 (x339001.length : Int) 0 x328000 x328001 x328002 x328003 x328004 x328005 x328006 x339000 x339001)
def athanorlaw04_TensorSums.l1 : Nat → Int → Int → Int → Int → Int → Int → List Int → List Int → List Int → List Int → Int → Int → Int → List Int → List Int → Option (Bool)
 | 0, _, _, _, _, _, _, _, _, _, _, _, _, _, _, _ => none
 | k + 1, x6, x9, x10, x12, x156, x157, x328000, x328001, x328002, x328003, x328004, x328005, x328006, x339000, x339001 => if x157 < x156 then (if 0 ≤ x157 then (if x157 < (x328001.length : Int) then (if x157 < (x328003.length : Int) then ((athanorref01_Mul.f k (rd x328001 x157) (rd x328003 x157)).bind fun t361 => ((athanorref01_Add.f k x12 t361).bind fun t362 => (if x157 < (x339001.length : Int) then ((athanorref01_Add.f k (rd x328001 x157) (rd x328003 x157)).bind fun t366 => (if (rd x339001 x157) = t366 then (athanorlaw04_TensorSums.l1 k x6 x9 x10 t362 x156 (wrap64 (x157 + 1)) x328000 x328001 x328002 x328003 x328004 x328005 x328006 x339000 x339001) else (none))) else (none)))) else (none)) else (none)) else (none)) else (if x6 = 0 then (if x10 = 0 then (if x9 = x12 then ((shape_Shape_Equal.f k x339000 x328000).bind fun t357 => (if t357 = true then ((athanorlaw04_awake.f k).bind fun t358 => (some t358)) else (none))) else (none)) else (none)) else (none))
end
def athanorlaw04_TensorSums.f (k : Nat) (l0_0 : List Int) (l0_1 : List Int) (l0_2 : List Int) (l0_3 : List Int) (a0_4 : Int) (a0_5 : Int) (a0_6 : Int) (a1 : Int) : Option (Bool) := (athanorlaw04_small.f l0_0 l0_1).bind fun t328 => (if t328 = true then ((athanorlaw04_small.f l0_2 l0_3).bind fun t329 => (athanorlaw04_TensorSums.j0 k a1 (!t329) l0_0 l0_1 l0_2 l0_3 a0_4 a0_5 a0_6)) else (athanorlaw04_TensorSums.j0 k a1 true l0_0 l0_1 l0_2 l0_3 a0_4 a0_5 a0_6))
theorem athanorlaw04_TensorSums.mono_l : ∀ k, (∀ y0 y1 y2 y3 y4 y5 y6 y7 y8, LeO (athanorlaw04_TensorSums.j0 k y0 y1 y2 y3 y4 y5 y6 y7 y8) (athanorlaw04_TensorSums.j0 (k + 1) y0 y1 y2 y3 y4 y5 y6 y7 y8)) ∧ (∀ y0 y1 y2 y3 y4 y5 y6 y7 y8 y9 y10 y11 y12 y13 y14 y15, LeO (athanorlaw04_TensorSums.j1 k y0 y1 y2 y3 y4 y5 y6 y7 y8 y9 y10 y11 y12 y13 y14 y15) (athanorlaw04_TensorSums.j1 (k + 1) y0 y1 y2 y3 y4 y5 y6 y7 y8 y9 y10 y11 y12 y13 y14 y15)) ∧ (∀ y0 y1 y2 y3 y4 y5 y6 y7 y8 y9 y10 y11 y12 y13 y14 y15 y16, LeO (athanorlaw04_TensorSums.l0 k y0 y1 y2 y3 y4 y5 y6 y7 y8 y9 y10 y11 y12 y13 y14 y15 y16) (athanorlaw04_TensorSums.l0 (k + 1) y0 y1 y2 y3 y4 y5 y6 y7 y8 y9 y10 y11 y12 y13 y14 y15 y16)) ∧ (∀ y0 y1 y2 y3 y4 y5 y6 y7 y8 y9 y10 y11 y12 y13 y14, LeO (athanorlaw04_TensorSums.j3 k y0 y1 y2 y3 y4 y5 y6 y7 y8 y9 y10 y11 y12 y13 y14) (athanorlaw04_TensorSums.j3 (k + 1) y0 y1 y2 y3 y4 y5 y6 y7 y8 y9 y10 y11 y12 y13 y14)) ∧ (∀ y0 y1 y2 y3 y4 y5 y6 y7 y8 y9 y10 y11 y12 y13, LeO (athanorlaw04_TensorSums.j4 k y0 y1 y2 y3 y4 y5 y6 y7 y8 y9 y10 y11 y12 y13) (athanorlaw04_TensorSums.j4 (k + 1) y0 y1 y2 y3 y4 y5 y6 y7 y8 y9 y10 y11 y12 y13)) ∧ (∀ y0 y1 y2 y3 y4 y5 y6 y7 y8 y9 y10 y11 y12 y13 y14, LeO (athanorlaw04_TensorSums.l1 k y0 y1 y2 y3 y4 y5 y6 y7 y8 y9 y10 y11 y12 y13 y14) (athanorlaw04_TensorSums.l1 (k + 1) y0 y1 y2 y3 y4 y5 y6 y7 y8 y9 y10 y11 y12 y13 y14))
 | 0 => ⟨fun _ _ _ _ _ _ _ _ _ r h => by simp [athanorlaw04_TensorSums.j0] at h, fun _ _ _ _ _ _ _ _ _ _ _ _ _ _ _ _ r h => by simp [athanorlaw04_TensorSums.j1] at h, fun _ _ _ _ _ _ _ _ _ _ _ _ _ _ _ _ _ r h => by simp [athanorlaw04_TensorSums.l0] at h, fun _ _ _ _ _ _ _ _ _ _ _ _ _ _ _ r h => by simp [athanorlaw04_TensorSums.j3] at h, fun _ _ _ _ _ _ _ _ _ _ _ _ _ _ r h => by simp [athanorlaw04_TensorSums.j4] at h, fun _ _ _ _ _ _ _ _ _ _ _ _ _ _ _ r h => by simp [athanorlaw04_TensorSums.l1] at h⟩
 | k + 1 => by
  obtain ⟨ih0, ih1, ih2, ih3, ih4, ih5⟩ := athanorlaw04_TensorSums.mono_l k
  refine ⟨?_, ?_, ?_, ?_, ?_, ?_⟩
  ·intro y0 y1 y2 y3 y4 y5 y6 y7 y8
   unfold athanorlaw04_TensorSums.j0
   repeat' first
   | (with_reducible exact ih0 _ _ _ _ _ _ _ _ _)
   | (with_reducible exact ih1 _ _ _ _ _ _ _ _ _ _ _ _ _ _ _ _)
   | (with_reducible exact ih2 _ _ _ _ _ _ _ _ _ _ _ _ _ _ _ _ _)
   | (with_reducible exact ih3 _ _ _ _ _ _ _ _ _ _ _ _ _ _ _)
   | (with_reducible exact ih4 _ _ _ _ _ _ _ _ _ _ _ _ _ _)
   | (with_reducible exact ih5 _ _ _ _ _ _ _ _ _ _ _ _ _ _ _)
   | (with_reducible exact athanorlaw04_awake.mono _)
   | (with_reducible exact athanorlaw04_right.mono _ _ _)
   | (with_reducible exact athanorref01_Add.mono _ _ _)
   | (with_reducible exact athanorref01_Mul.mono _ _ _)
   | (with_reducible exact athanorref03_Same.mono _ _ _)
   | (with_reducible exact shape_Shape_Equal.mono _ _ _)
   | (with_reducible exact tensor_Add.mono _ _ _ _ _)
   | (with_reducible exact tensor_Dot.mono _ _ _ _ _)
   | (with_reducible exact tensor_Scale.mono _ _ _ _)
   | (with_reducible exact LeO.refl _)
   | (with_reducible exact LeO.none _)
   | (with_reducible refine LeO.ite ?_ ?_)
   | (with_reducible refine LeO.bind ?_ (fun _ => ?_))
   | exact ih0 _ _ _ _ _ _ _ _ _
   | exact ih1 _ _ _ _ _ _ _ _ _ _ _ _ _ _ _ _
   | exact ih2 _ _ _ _ _ _ _ _ _ _ _ _ _ _ _ _ _
   | exact ih3 _ _ _ _ _ _ _ _ _ _ _ _ _ _ _
   | exact ih4 _ _ _ _ _ _ _ _ _ _ _ _ _ _
   | exact ih5 _ _ _ _ _ _ _ _ _ _ _ _ _ _ _
   | exact athanorlaw04_awake.mono _
   | exact athanorlaw04_right.mono _ _ _
   | exact athanorref01_Add.mono _ _ _
   | exact athanorref01_Mul.mono _ _ _
   | exact athanorref03_Same.mono _ _ _
   | exact shape_Shape_Equal.mono _ _ _
   | exact tensor_Add.mono _ _ _ _ _
   | exact tensor_Dot.mono _ _ _ _ _
   | exact tensor_Scale.mono _ _ _ _
   | exact LeO.none _
   | refine LeO.ite ?_ ?_
   | refine LeO.bind ?_ (fun _ => ?_)
  ·intro y0 y1 y2 y3 y4 y5 y6 y7 y8 y9 y10 y11 y12 y13 y14 y15
   unfold athanorlaw04_TensorSums.j1
   repeat' first
   | (with_reducible exact ih0 _ _ _ _ _ _ _ _ _)
   | (with_reducible exact ih1 _ _ _ _ _ _ _ _ _ _ _ _ _ _ _ _)
   | (with_reducible exact ih2 _ _ _ _ _ _ _ _ _ _ _ _ _ _ _ _ _)
   | (with_reducible exact ih3 _ _ _ _ _ _ _ _ _ _ _ _ _ _ _)
   | (with_reducible exact ih4 _ _ _ _ _ _ _ _ _ _ _ _ _ _)
   | (with_reducible exact ih5 _ _ _ _ _ _ _ _ _ _ _ _ _ _ _)
   | (with_reducible exact athanorlaw04_awake.mono _)
   | (with_reducible exact athanorlaw04_right.mono _ _ _)
   | (with_reducible exact athanorref01_Add.mono _ _ _)
   | (with_reducible exact athanorref01_Mul.mono _ _ _)
   | (with_reducible exact athanorref03_Same.mono _ _ _)
   | (with_reducible exact shape_Shape_Equal.mono _ _ _)
   | (with_reducible exact tensor_Add.mono _ _ _ _ _)
   | (with_reducible exact tensor_Dot.mono _ _ _ _ _)
   | (with_reducible exact tensor_Scale.mono _ _ _ _)
   | (with_reducible exact LeO.refl _)
   | (with_reducible exact LeO.none _)
   | (with_reducible refine LeO.ite ?_ ?_)
   | (with_reducible refine LeO.bind ?_ (fun _ => ?_))
   | exact ih0 _ _ _ _ _ _ _ _ _
   | exact ih1 _ _ _ _ _ _ _ _ _ _ _ _ _ _ _ _
   | exact ih2 _ _ _ _ _ _ _ _ _ _ _ _ _ _ _ _ _
   | exact ih3 _ _ _ _ _ _ _ _ _ _ _ _ _ _ _
   | exact ih4 _ _ _ _ _ _ _ _ _ _ _ _ _ _
   | exact ih5 _ _ _ _ _ _ _ _ _ _ _ _ _ _ _
   | exact athanorlaw04_awake.mono _
   | exact athanorlaw04_right.mono _ _ _
   | exact athanorref01_Add.mono _ _ _
   | exact athanorref01_Mul.mono _ _ _
   | exact athanorref03_Same.mono _ _ _
   | exact shape_Shape_Equal.mono _ _ _
   | exact tensor_Add.mono _ _ _ _ _
   | exact tensor_Dot.mono _ _ _ _ _
   | exact tensor_Scale.mono _ _ _ _
   | exact LeO.none _
   | refine LeO.ite ?_ ?_
   | refine LeO.bind ?_ (fun _ => ?_)
  ·intro y0 y1 y2 y3 y4 y5 y6 y7 y8 y9 y10 y11 y12 y13 y14 y15 y16
   unfold athanorlaw04_TensorSums.l0
   repeat' first
   | (with_reducible exact ih0 _ _ _ _ _ _ _ _ _)
   | (with_reducible exact ih1 _ _ _ _ _ _ _ _ _ _ _ _ _ _ _ _)
   | (with_reducible exact ih2 _ _ _ _ _ _ _ _ _ _ _ _ _ _ _ _ _)
   | (with_reducible exact ih3 _ _ _ _ _ _ _ _ _ _ _ _ _ _ _)
   | (with_reducible exact ih4 _ _ _ _ _ _ _ _ _ _ _ _ _ _)
   | (with_reducible exact ih5 _ _ _ _ _ _ _ _ _ _ _ _ _ _ _)
   | (with_reducible exact athanorlaw04_awake.mono _)
   | (with_reducible exact athanorlaw04_right.mono _ _ _)
   | (with_reducible exact athanorref01_Add.mono _ _ _)
   | (with_reducible exact athanorref01_Mul.mono _ _ _)
   | (with_reducible exact athanorref03_Same.mono _ _ _)
   | (with_reducible exact shape_Shape_Equal.mono _ _ _)
   | (with_reducible exact tensor_Add.mono _ _ _ _ _)
   | (with_reducible exact tensor_Dot.mono _ _ _ _ _)
   | (with_reducible exact tensor_Scale.mono _ _ _ _)
   | (with_reducible exact LeO.refl _)
   | (with_reducible exact LeO.none _)
   | (with_reducible refine LeO.ite ?_ ?_)
   | (with_reducible refine LeO.bind ?_ (fun _ => ?_))
   | exact ih0 _ _ _ _ _ _ _ _ _
   | exact ih1 _ _ _ _ _ _ _ _ _ _ _ _ _ _ _ _
   | exact ih2 _ _ _ _ _ _ _ _ _ _ _ _ _ _ _ _ _
   | exact ih3 _ _ _ _ _ _ _ _ _ _ _ _ _ _ _
   | exact ih4 _ _ _ _ _ _ _ _ _ _ _ _ _ _
   | exact ih5 _ _ _ _ _ _ _ _ _ _ _ _ _ _ _
   | exact athanorlaw04_awake.mono _
   | exact athanorlaw04_right.mono _ _ _
   | exact athanorref01_Add.mono _ _ _
   | exact athanorref01_Mul.mono _ _ _
   | exact athanorref03_Same.mono _ _ _
   | exact shape_Shape_Equal.mono _ _ _
   | exact tensor_Add.mono _ _ _ _ _
   | exact tensor_Dot.mono _ _ _ _ _
   | exact tensor_Scale.mono _ _ _ _
   | exact LeO.none _
   | refine LeO.ite ?_ ?_
   | refine LeO.bind ?_ (fun _ => ?_)
  ·intro y0 y1 y2 y3 y4 y5 y6 y7 y8 y9 y10 y11 y12 y13 y14
   unfold athanorlaw04_TensorSums.j3
   repeat' first
   | (with_reducible exact ih0 _ _ _ _ _ _ _ _ _)
   | (with_reducible exact ih1 _ _ _ _ _ _ _ _ _ _ _ _ _ _ _ _)
   | (with_reducible exact ih2 _ _ _ _ _ _ _ _ _ _ _ _ _ _ _ _ _)
   | (with_reducible exact ih3 _ _ _ _ _ _ _ _ _ _ _ _ _ _ _)
   | (with_reducible exact ih4 _ _ _ _ _ _ _ _ _ _ _ _ _ _)
   | (with_reducible exact ih5 _ _ _ _ _ _ _ _ _ _ _ _ _ _ _)
   | (with_reducible exact athanorlaw04_awake.mono _)
   | (with_reducible exact athanorlaw04_right.mono _ _ _)
   | (with_reducible exact athanorref01_Add.mono _ _ _)
   | (with_reducible exact athanorref01_Mul.mono _ _ _)
   | (with_reducible exact athanorref03_Same.mono _ _ _)
   | (with_reducible exact shape_Shape_Equal.mono _ _ _)
   | (with_reducible exact tensor_Add.mono _ _ _ _ _)
   | (with_reducible exact tensor_Dot.mono _ _ _ _ _)
   | (with_reducible exact tensor_Scale.mono _ _ _ _)
   | (with_reducible exact LeO.refl _)
   | (with_reducible exact LeO.none _)
   | (with_reducible refine LeO.ite ?_ ?_)
   | (with_reducible refine LeO.bind ?_ (fun _ => ?_))
   | exact ih0 _ _ _ _ _ _ _ _ _
   | exact ih1 _ _ _ _ _ _ _ _ _ _ _ _ _ _ _ _
   | exact ih2 _ _ _ _ _ _ _ _ _ _ _ _ _ _ _ _ _
   | exact ih3 _ _ _ _ _ _ _ _ _ _ _ _ _ _ _
   | exact ih4 _ _ _ _ _ _ _ _ _ _ _ _ _ _
   | exact ih5 _ _ _ _ _ _ _ _ _ _ _ _ _ _ _
   | exact athanorlaw04_awake.mono _
   | exact athanorlaw04_right.mono _ _ _
   | exact athanorref01_Add.mono _ _ _
   | exact athanorref01_Mul.mono _ _ _
   | exact athanorref03_Same.mono _ _ _
   | exact shape_Shape_Equal.mono _ _ _
   | exact tensor_Add.mono _ _ _ _ _
   | exact tensor_Dot.mono _ _ _ _ _
   | exact tensor_Scale.mono _ _ _ _
   | exact LeO.none _
   | refine LeO.ite ?_ ?_
   | refine LeO.bind ?_ (fun _ => ?_)
  ·intro y0 y1 y2 y3 y4 y5 y6 y7 y8 y9 y10 y11 y12 y13
   unfold athanorlaw04_TensorSums.j4
   repeat' first
   | (with_reducible exact ih0 _ _ _ _ _ _ _ _ _)
   | (with_reducible exact ih1 _ _ _ _ _ _ _ _ _ _ _ _ _ _ _ _)
   | (with_reducible exact ih2 _ _ _ _ _ _ _ _ _ _ _ _ _ _ _ _ _)
   | (with_reducible exact ih3 _ _ _ _ _ _ _ _ _ _ _ _ _ _ _)
   | (with_reducible exact ih4 _ _ _ _ _ _ _ _ _ _ _ _ _ _)
   | (with_reducible exact ih5 _ _ _ _ _ _ _ _ _ _ _ _ _ _ _)
   | (with_reducible exact athanorlaw04_awake.mono _)
   | (with_reducible exact athanorlaw04_right.mono _ _ _)
   | (with_reducible exact athanorref01_Add.mono _ _ _)
   | (with_reducible exact athanorref01_Mul.mono _ _ _)
   | (with_reducible exact athanorref03_Same.mono _ _ _)
   | (with_reducible exact shape_Shape_Equal.mono _ _ _)
   | (with_reducible exact tensor_Add.mono _ _ _ _ _)
   | (with_reducible exact tensor_Dot.mono _ _ _ _ _)
   | (with_reducible exact tensor_Scale.mono _ _ _ _)
   | (with_reducible exact LeO.refl _)
   | (with_reducible exact LeO.none _)
   | (with_reducible refine LeO.ite ?_ ?_)
   | (with_reducible refine LeO.bind ?_ (fun _ => ?_))
   | exact ih0 _ _ _ _ _ _ _ _ _
   | exact ih1 _ _ _ _ _ _ _ _ _ _ _ _ _ _ _ _
   | exact ih2 _ _ _ _ _ _ _ _ _ _ _ _ _ _ _ _ _
   | exact ih3 _ _ _ _ _ _ _ _ _ _ _ _ _ _ _
   | exact ih4 _ _ _ _ _ _ _ _ _ _ _ _ _ _
   | exact ih5 _ _ _ _ _ _ _ _ _ _ _ _ _ _ _
   | exact athanorlaw04_awake.mono _
   | exact athanorlaw04_right.mono _ _ _
   | exact athanorref01_Add.mono _ _ _
   | exact athanorref01_Mul.mono _ _ _
   | exact athanorref03_Same.mono _ _ _
   | exact shape_Shape_Equal.mono _ _ _
   | exact tensor_Add.mono _ _ _ _ _
   | exact tensor_Dot.mono _ _ _ _ _
   | exact tensor_Scale.mono _ _ _ _
   | exact LeO.none _
   | refine LeO.ite ?_ ?_
   | refine LeO.bind ?_ (fun _ => ?_)
  ·intro y0 y1 y2 y3 y4 y5 y6 y7 y8 y9 y10 y11 y12 y13 y14
   unfold athanorlaw04_TensorSums.l1
   repeat' first
   | (with_reducible exact ih0 _ _ _ _ _ _ _ _ _)
   | (with_reducible exact ih1 _ _ _ _ _ _ _ _ _ _ _ _ _ _ _ _)
   | (with_reducible exact ih2 _ _ _ _ _ _ _ _ _ _ _ _ _ _ _ _ _)
   | (with_reducible exact ih3 _ _ _ _ _ _ _ _ _ _ _ _ _ _ _)
   | (with_reducible exact ih4 _ _ _ _ _ _ _ _ _ _ _ _ _ _)
   | (with_reducible exact ih5 _ _ _ _ _ _ _ _ _ _ _ _ _ _ _)
   | (with_reducible exact athanorlaw04_awake.mono _)
   | (with_reducible exact athanorlaw04_right.mono _ _ _)
   | (with_reducible exact athanorref01_Add.mono _ _ _)
   | (with_reducible exact athanorref01_Mul.mono _ _ _)
   | (with_reducible exact athanorref03_Same.mono _ _ _)
   | (with_reducible exact shape_Shape_Equal.mono _ _ _)
   | (with_reducible exact tensor_Add.mono _ _ _ _ _)
   | (with_reducible exact tensor_Dot.mono _ _ _ _ _)
   | (with_reducible exact tensor_Scale.mono _ _ _ _)
   | (with_reducible exact LeO.refl _)
   | (with_reducible exact LeO.none _)
   | (with_reducible refine LeO.ite ?_ ?_)
   | (with_reducible refine LeO.bind ?_ (fun _ => ?_))
   | exact ih0 _ _ _ _ _ _ _ _ _
   | exact ih1 _ _ _ _ _ _ _ _ _ _ _ _ _ _ _ _
   | exact ih2 _ _ _ _ _ _ _ _ _ _ _ _ _ _ _ _ _
   | exact ih3 _ _ _ _ _ _ _ _ _ _ _ _ _ _ _
   | exact ih4 _ _ _ _ _ _ _ _ _ _ _ _ _ _
   | exact ih5 _ _ _ _ _ _ _ _ _ _ _ _ _ _ _
   | exact athanorlaw04_awake.mono _
   | exact athanorlaw04_right.mono _ _ _
   | exact athanorref01_Add.mono _ _ _
   | exact athanorref01_Mul.mono _ _ _
   | exact athanorref03_Same.mono _ _ _
   | exact shape_Shape_Equal.mono _ _ _
   | exact tensor_Add.mono _ _ _ _ _
   | exact tensor_Dot.mono _ _ _ _ _
   | exact tensor_Scale.mono _ _ _ _
   | exact LeO.none _
   | refine LeO.ite ?_ ?_
   | refine LeO.bind ?_ (fun _ => ?_)
theorem athanorlaw04_TensorSums.mono : ∀ a0 a1 a2 a3 a4 a5 a6 a7 k, LeO (athanorlaw04_TensorSums.f k a0 a1 a2 a3 a4 a5 a6 a7) (athanorlaw04_TensorSums.f (k + 1) a0 a1 a2 a3 a4 a5 a6 a7) := by
 intro a0 a1 a2 a3 a4 a5 a6 a7 k
 obtain ⟨ih0, ih1, ih2, ih3, ih4, ih5⟩ := athanorlaw04_TensorSums.mono_l k
 unfold athanorlaw04_TensorSums.f
 repeat' first
   | (with_reducible exact ih0 _ _ _ _ _ _ _ _ _)
   | (with_reducible exact ih1 _ _ _ _ _ _ _ _ _ _ _ _ _ _ _ _)
   | (with_reducible exact ih2 _ _ _ _ _ _ _ _ _ _ _ _ _ _ _ _ _)
   | (with_reducible exact ih3 _ _ _ _ _ _ _ _ _ _ _ _ _ _ _)
   | (with_reducible exact ih4 _ _ _ _ _ _ _ _ _ _ _ _ _ _)
   | (with_reducible exact ih5 _ _ _ _ _ _ _ _ _ _ _ _ _ _ _)
   | (with_reducible exact athanorlaw04_awake.mono _)
   | (with_reducible exact athanorlaw04_right.mono _ _ _)
   | (with_reducible exact athanorref01_Add.mono _ _ _)
   | (with_reducible exact athanorref01_Mul.mono _ _ _)
   | (with_reducible exact athanorref03_Same.mono _ _ _)
   | (with_reducible exact shape_Shape_Equal.mono _ _ _)
   | (with_reducible exact tensor_Add.mono _ _ _ _ _)
   | (with_reducible exact tensor_Dot.mono _ _ _ _ _)
   | (with_reducible exact tensor_Scale.mono _ _ _ _)
   | (with_reducible exact LeO.refl _)
   | (with_reducible exact LeO.none _)
   | (with_reducible refine LeO.ite ?_ ?_)
   | (with_reducible refine LeO.bind ?_ (fun _ => ?_))
   | exact ih0 _ _ _ _ _ _ _ _ _
   | exact ih1 _ _ _ _ _ _ _ _ _ _ _ _ _ _ _ _
   | exact ih2 _ _ _ _ _ _ _ _ _ _ _ _ _ _ _ _ _
   | exact ih3 _ _ _ _ _ _ _ _ _ _ _ _ _ _ _
   | exact ih4 _ _ _ _ _ _ _ _ _ _ _ _ _ _
   | exact ih5 _ _ _ _ _ _ _ _ _ _ _ _ _ _ _
   | exact athanorlaw04_awake.mono _
   | exact athanorlaw04_right.mono _ _ _
   | exact athanorref01_Add.mono _ _ _
   | exact athanorref01_Mul.mono _ _ _
   | exact athanorref03_Same.mono _ _ _
   | exact shape_Shape_Equal.mono _ _ _
   | exact tensor_Add.mono _ _ _ _ _
   | exact tensor_Dot.mono _ _ _ _ _
   | exact tensor_Scale.mono _ _ _ _
   | exact LeO.none _
   | refine LeO.ite ?_ ?_
   | refine LeO.bind ?_ (fun _ => ?_)
def athanorlaw04_TensorSums.T11 : Bool × List (List Nat × List Nat) := (true, [([], []), ([], []), ([1], [1]), ([2], [2]), ([3], [3]), ([0, 4], [0, 4]), ([5], [5]), ([6], [6]), ([7, 6], [6, 7]), ([6], [6]), ([8, 9, 6], [6, 8, 9]), ([10, 6], [6, 10]), ([6], [6]), ([12, 6], [6, 12]), ([13, 6], [6, 13]), ([6], [6]), ([14, 15, 6], [6, 14, 15]), ([16, 6], [6, 16]), ([6], [6]), ([17, 18, 6, 6], [6, 17, 18]), ([11, 19, 6], [6, 11, 19]), ([6, 20], [6, 20])])
def athanorlaw04_TensorSums.B11 : List Nat := [0, 0, 2, 6, 14, 31, 63, 127, 255, 127, 1023, 2047, 127, 4223, 12415, 127, 61567, 127103, 127, 520319, 1048575, 2097151]
theorem athanorlaw04_TensorSums.tab11 : rtab .any (opsOf Try.f5 11) = athanorlaw04_TensorSums.T11 := by kernel_rfl
theorem athanorlaw04_TensorSums.bits11 : waitsOk athanorlaw04_TensorSums.T11.2 athanorlaw04_TensorSums.B11 = true := by kernel_rfl
def athanorlaw04_TensorSums.T22 : Bool × List (List Nat × List Nat) := (true, [([], []), ([], []), ([1], [1]), ([2], [2]), ([], []), ([3, 4], [3, 4]), ([5], [5]), ([], []), ([7], [7]), ([8], [8]), ([], []), ([9, 10], [9, 10]), ([11], [11]), ([6, 12], [6, 12]), ([0, 13, 13], [0, 13]), ([14, 14, 0, 1, 2, 3, 4, 5, 6, 7, 8, 9, 10, 11, 12, 13, 14], [0, 14])])
def athanorlaw04_TensorSums.B22 : List Nat := [0, 0, 2, 6, 0, 30, 62, 0, 128, 384, 0, 1920, 3968, 8190, 16383, 32767]
theorem athanorlaw04_TensorSums.tab22 : rtab .any (opsOf Try.f5 22) = athanorlaw04_TensorSums.T22 := by kernel_rfl
theorem athanorlaw04_TensorSums.bits22 : waitsOk athanorlaw04_TensorSums.T22.2 athanorlaw04_TensorSums.B22 = true := by kernel_rfl
set_option maxHeartbeats 8000000 in
set_option maxRecDepth 100000 in
theorem athanorlaw04_TensorSums.calls (k : Nat) (A0_0 : Option Addr) (c0_0 : Nat) (l0_0 : List Int) (A0_1 : Option Addr) (c0_1 : Nat) (l0_1 : List Int) (A0_2 : Option Addr) (c0_2 : Nat) (l0_2 : List Int) (A0_3 : Option Addr) (c0_3 : Nat) (l0_3 : List Int) (a0_4 : Int) (a0_5 : Int) (a0_6 : Int) (a1 : Int) (r : Bool) (w : World) (hr0_0 : Kd.C (Kd.int .i64) w A0_0 l0_0.length l0_0) (hc0_0 : l0_0.length ≤ c0_0) (hr0_1 : Kd.C (Kd.int .i64) w A0_1 l0_1.length l0_1) (hc0_1 : l0_1.length ≤ c0_1) (hr0_2 : Kd.C (Kd.int .i64) w A0_2 l0_2.length l0_2) (hc0_2 : l0_2.length ≤ c0_2) (hr0_3 : Kd.C (Kd.int .i64) w A0_3 l0_3.length l0_3) (hc0_3 : l0_3.length ≤ c0_3) (h : athanorlaw04_TensorSums.f k l0_0 l0_1 l0_2 l0_3 a0_4 a0_5 a0_6 a1 = some r) :
  Calls Try.prog 5 #[.agg #[.slice A0_0 l0_0.length c0_0, .slice A0_1 l0_1.length c0_1, .slice A0_2 l0_2.length c0_2, .slice A0_3 l0_3.length c0_3, .int .i64 a0_4, .int .i64 a0_5, .int .i64 a0_6], .int .i64 a1] w fun e w' => e = .returned (.bool r) ∧ Below w.heap.size w w' := by
 have hu47 := Try.underlying47
 have hu26 := Try.underlying26
 have HR0_0 := Aside0.mk hr0_0
 have HC0_0 := Aside0.mk hc0_0
 clear hr0_0 hc0_0
 have HR0_1 := Aside0.mk hr0_1
 have HC0_1 := Aside0.mk hc0_1
 clear hr0_1 hc0_1
 have HR0_2 := Aside0.mk hr0_2
 have HC0_2 := Aside0.mk hc0_2
 clear hr0_2 hc0_2
 have HR0_3 := Aside0.mk hr0_3
 have HC0_3 := Aside0.mk hc0_3
 clear hr0_3 hc0_3
 have HB := aM (Below.refl w.heap.size w)
 have H : ((athanorlaw04_small.f l0_0 l0_1).bind fun t328 => (if t328 = true then ((athanorlaw04_small.f l0_2 l0_3).bind fun t329 => (athanorlaw04_TensorSums.j0 k a1 (!t329) l0_0 l0_1 l0_2 l0_3 a0_4 a0_5 a0_6)) else (athanorlaw04_TensorSums.j0 k a1 true l0_0 l0_1 l0_2 l0_3 a0_4 a0_5 a0_6))) = some r := h
 clear h
 have HC3 := Aside0.mk H
 clear H
 go_enter Try.func5, Try.ntmps5
 go_upto_region 1 with (first | ((with_reducible refine gate_dst (N := 2) rfl ?_); (try (refine gate_guard (by rfl) ?_; dsimp only)); refine box_event ?hg (N := 2) ?hd (cs := #[.slice A0_0 l0_0.length c0_0, .slice A0_1 l0_1.length c0_1, .slice A0_2 l0_2.length c0_2, .slice A0_3 l0_3.length c0_3, .int .i64 a0_4, .int .i64 a0_5, .int .i64 a0_6]) (t := 47) ?hr ?_; (case hd => rfl); (case hg => rfl); (case hr => first | (go_simp; done) | (go_simp; rfl)); intro gb327 hg w4 hbox hb; have n0_ := aM (below_step (by repeat (first | (with_reducible first|exact HB.out|apply bA|apply bN|apply bD)|exact HB.out)) hb); have n1_ := aM (hbox); have n2_ := aM ((by rw [hg]; exact (below_size (by repeat (first | (with_reducible first|exact HB.out|apply bA|apply bN|apply bD)|exact HB.out))) : w.heap.size ≤ gb327)); have n3_ := aM ((by rw [hg]; exact (below_size (by repeat (first | (with_reducible first|exact HB.out|apply bA|apply bN|apply bD)|exact HB.out))) : w.heap.size ≤ gb327)); clear HB; have HB := n0_; have BK327 := n1_; have GW327 := n2_; have GE327 := n3_; clear n0_ n1_ n2_ n3_; clear hb hbox hg))
 (try simp only [Act.put, List.setIfInBounds_toArray, List.set_cons_zero, List.set_cons_succ])
 go_cut [23] (fun v23 wc => ∃ (kq : Nat) (x23_2 : Bool), v23 = .bool x23_2 ∧ Aside0 (athanorlaw04_TensorSums.j0 kq a1 x23_2 l0_0 l0_1 l0_2 l0_3 a0_4 a0_5 a0_6 = some r) ∧ Aside0 (kq ≤ k) ∧ Aside0 (wc.heap[gb327]? = some (.cells #[(.slice A0_0 l0_0.length c0_0), (.slice A0_1 l0_1.length c0_1), (.slice A0_2 l0_2.length c0_2), (.slice A0_3 l0_3.length c0_3), .int .i64 a0_4, .int .i64 a0_5, .int .i64 a0_6] 47 (0, 0))) ∧ Aside0 (Below w.heap.size w wc))
 case first =>
  have H := HC3.out
  clear HC3
  replace H := Option.bind_eq_some_iff.mp H
  obtain ⟨t328, A50, H⟩ := H
  replace H : (if t328 = true then ((athanorlaw04_small.f l0_2 l0_3).bind fun t329 => (athanorlaw04_TensorSums.j0 k a1 (!t329) l0_0 l0_1 l0_2 l0_3 a0_4 a0_5 a0_6)) else (athanorlaw04_TensorSums.j0 k a1 true l0_0 l0_1 l0_2 l0_3 a0_4 a0_5 a0_6)) = some r := H
  have A5 := Aside0.mk A50
  clear A50
  by_cases c6 : t328 = true
  ·subst c6
   have H1 : ((athanorlaw04_small.f l0_2 l0_3).bind fun t329 => (athanorlaw04_TensorSums.j0 k a1 (!t329) l0_0 l0_1 l0_2 l0_3 a0_4 a0_5 a0_6)) = some r := by rw [if_pos rfl] at H; exact H
   clear H
   have H := H1
   clear H1
   replace H := Option.bind_eq_some_iff.mp H
   obtain ⟨t329, A70, H⟩ := H
   replace H : (athanorlaw04_TensorSums.j0 k a1 (!t329) l0_0 l0_1 l0_2 l0_3 a0_4 a0_5 a0_6) = some r := H
   have A7 := Aside0.mk A70
   clear A70
   as_aux_lemma =>
    have H' := Aside0.mk H
    clear H
    have hcz8_0 : w4.cell? ⟨gb327, 0, none⟩ = some (.slice A0_0 l0_0.length c0_0) := (blk_cell BK327.out 0).trans rfl
    have hcz8_1 : w4.cell? ⟨gb327, 1, none⟩ = some (.slice A0_1 l0_1.length c0_1) := (blk_cell BK327.out 1).trans rfl
    have hcz8_2 : w4.cell? ⟨gb327, 2, none⟩ = some (.slice A0_2 l0_2.length c0_2) := (blk_cell BK327.out 2).trans rfl
    have hcz8_3 : w4.cell? ⟨gb327, 3, none⟩ = some (.slice A0_3 l0_3.length c0_3) := (blk_cell BK327.out 3).trans rfl
    have hcz8_4 : w4.cell? ⟨gb327, 4, none⟩ = some (.int .i64 a0_4) := (blk_cell BK327.out 4).trans rfl
    have hcz8_5 : w4.cell? ⟨gb327, 5, none⟩ = some (.int .i64 a0_5) := (blk_cell BK327.out 5).trans rfl
    have hcz8_6 : w4.cell? ⟨gb327, 6, none⟩ = some (.int .i64 a0_6) := (blk_cell BK327.out 6).trans rfl
    have hfz8_0 := blk_frozen BK327.out 0
    have hfz8_1 := blk_frozen BK327.out 1
    have hfz8_2 := blk_frozen BK327.out 2
    have hfz8_3 := blk_frozen BK327.out 3
    have hfz8_4 := blk_frozen BK327.out 4
    have hfz8_5 := blk_frozen BK327.out 5
    have hfz8_6 := blk_frozen BK327.out 6
    iterate 7 (first | go_quiet (first | ((with_reducible refine gate_callee (f := 8) rfl ?_); refine goesL_ (some 16) rfl rfl Try.func8 (by kernel_rfl) rfl #[.agg #[.slice A0_0 l0_0.length c0_0, .slice A0_1 l0_1.length c0_1]] rfl (by (try simp only [List.map_toArray, List.map_cons, List.map_nil]); first | done | rfl | (simp only [List.length_drop, List.length_take]; rfl)) ?_; (with_reducible refine (athanorlaw04_small.calls _ _ l0_0 _ _ l0_1 true _ ?side1 ?side2 ?side3 ?side4 A5.out).mono ?_); (case side1 => repeat (first|exact (Kd.C_below HR0_0.out HB.out) | with_reducible first|apply cA|apply cN|apply cD)); (case side2 => exact HC0_0.out); (case side3 => repeat (first|exact (Kd.C_below HR0_1.out HB.out) | with_reducible first|apply cA|apply cN|apply cD)); (case side4 => exact HC0_1.out); rintro e w9 ⟨rfl, hb⟩; refine ⟨_, rfl, ?_⟩; have n0_ := aM (blk_below (g := gb327) (o := .cells #[.slice A0_0 l0_0.length c0_0, .slice A0_1 l0_1.length c0_1, .slice A0_2 l0_2.length c0_2, .slice A0_3 l0_3.length c0_3, .int .i64 a0_4, .int .i64 a0_5, .int .i64 a0_6] 47 (0, 0)) (by (with_reducible repeat (first|apply kN|apply kD|apply kA)); exact BK327.out) hb); have n1_ := aM (below_step (by repeat (first | (with_reducible first|exact HB.out|apply bA|apply bN|apply bD|refine bS ?_ GE327.out)|exact HB.out)) hb); clear BK327; clear HB; have BK327 := n0_; have HB := n1_; clear n0_ n1_; (try clear hb); have hcz10_0 : w9.cell? ⟨gb327, 0, none⟩ = some (.slice A0_0 l0_0.length c0_0) := (blk_cell BK327.out 0).trans rfl; have hcz10_1 : w9.cell? ⟨gb327, 1, none⟩ = some (.slice A0_1 l0_1.length c0_1) := (blk_cell BK327.out 1).trans rfl; have hcz10_2 : w9.cell? ⟨gb327, 2, none⟩ = some (.slice A0_2 l0_2.length c0_2) := (blk_cell BK327.out 2).trans rfl; have hcz10_3 : w9.cell? ⟨gb327, 3, none⟩ = some (.slice A0_3 l0_3.length c0_3) := (blk_cell BK327.out 3).trans rfl; have hcz10_4 : w9.cell? ⟨gb327, 4, none⟩ = some (.int .i64 a0_4) := (blk_cell BK327.out 4).trans rfl; have hcz10_5 : w9.cell? ⟨gb327, 5, none⟩ = some (.int .i64 a0_5) := (blk_cell BK327.out 5).trans rfl; have hcz10_6 : w9.cell? ⟨gb327, 6, none⟩ = some (.int .i64 a0_6) := (blk_cell BK327.out 6).trans rfl; have hfz10_0 := blk_frozen BK327.out 0; have hfz10_1 := blk_frozen BK327.out 1; have hfz10_2 := blk_frozen BK327.out 2; have hfz10_3 := blk_frozen BK327.out 3; have hfz10_4 := blk_frozen BK327.out 4; have hfz10_5 := blk_frozen BK327.out 5; have hfz10_6 := blk_frozen BK327.out 6) | (go_at_call 8; (with_reducible refine (athanorlaw04_small.calls _ _ l0_2 _ _ l0_3 t329 _ ?side1 ?side2 ?side3 ?side4 A7.out).mono ?_); (case side1 => repeat (first|exact (Kd.C_below HR0_2.out HB.out) | with_reducible first|apply cA|apply cN|apply cD)); (case side2 => exact HC0_2.out); (case side3 => repeat (first|exact (Kd.C_below HR0_3.out HB.out) | with_reducible first|apply cA|apply cN|apply cD)); (case side4 => exact HC0_3.out); rintro e w11 ⟨rfl, hb⟩; have n0_ := aM (blk_below (g := gb327) (o := .cells #[.slice A0_0 l0_0.length c0_0, .slice A0_1 l0_1.length c0_1, .slice A0_2 l0_2.length c0_2, .slice A0_3 l0_3.length c0_3, .int .i64 a0_4, .int .i64 a0_5, .int .i64 a0_6] 47 (0, 0)) (by (with_reducible repeat (first|apply kN|apply kD|apply kA)); exact BK327.out) hb); have n1_ := aM (below_step (by repeat (first | (with_reducible first|exact HB.out|apply bA|apply bN|apply bD|refine bS ?_ GE327.out)|exact HB.out)) hb); clear BK327; clear HB; have BK327 := n0_; have HB := n1_; clear n0_ n1_; (try clear hb))) | try go_wp2_with (first | ((with_reducible refine gate_callee (f := 8) rfl ?_); refine goesL_ (some 16) rfl rfl Try.func8 (by kernel_rfl) rfl #[.agg #[.slice A0_0 l0_0.length c0_0, .slice A0_1 l0_1.length c0_1]] rfl (by (try simp only [List.map_toArray, List.map_cons, List.map_nil]); first | done | rfl | (simp only [List.length_drop, List.length_take]; rfl)) ?_; (with_reducible refine (athanorlaw04_small.calls _ _ l0_0 _ _ l0_1 true _ ?side1 ?side2 ?side3 ?side4 A5.out).mono ?_); (case side1 => repeat (first|exact (Kd.C_below HR0_0.out HB.out) | with_reducible first|apply cA|apply cN|apply cD)); (case side2 => exact HC0_0.out); (case side3 => repeat (first|exact (Kd.C_below HR0_1.out HB.out) | with_reducible first|apply cA|apply cN|apply cD)); (case side4 => exact HC0_1.out); rintro e w9 ⟨rfl, hb⟩; refine ⟨_, rfl, ?_⟩; have n0_ := aM (blk_below (g := gb327) (o := .cells #[.slice A0_0 l0_0.length c0_0, .slice A0_1 l0_1.length c0_1, .slice A0_2 l0_2.length c0_2, .slice A0_3 l0_3.length c0_3, .int .i64 a0_4, .int .i64 a0_5, .int .i64 a0_6] 47 (0, 0)) (by (with_reducible repeat (first|apply kN|apply kD|apply kA)); exact BK327.out) hb); have n1_ := aM (below_step (by repeat (first | (with_reducible first|exact HB.out|apply bA|apply bN|apply bD|refine bS ?_ GE327.out)|exact HB.out)) hb); clear BK327; clear HB; have BK327 := n0_; have HB := n1_; clear n0_ n1_; (try clear hb); have hcz10_0 : w9.cell? ⟨gb327, 0, none⟩ = some (.slice A0_0 l0_0.length c0_0) := (blk_cell BK327.out 0).trans rfl; have hcz10_1 : w9.cell? ⟨gb327, 1, none⟩ = some (.slice A0_1 l0_1.length c0_1) := (blk_cell BK327.out 1).trans rfl; have hcz10_2 : w9.cell? ⟨gb327, 2, none⟩ = some (.slice A0_2 l0_2.length c0_2) := (blk_cell BK327.out 2).trans rfl; have hcz10_3 : w9.cell? ⟨gb327, 3, none⟩ = some (.slice A0_3 l0_3.length c0_3) := (blk_cell BK327.out 3).trans rfl; have hcz10_4 : w9.cell? ⟨gb327, 4, none⟩ = some (.int .i64 a0_4) := (blk_cell BK327.out 4).trans rfl; have hcz10_5 : w9.cell? ⟨gb327, 5, none⟩ = some (.int .i64 a0_5) := (blk_cell BK327.out 5).trans rfl; have hcz10_6 : w9.cell? ⟨gb327, 6, none⟩ = some (.int .i64 a0_6) := (blk_cell BK327.out 6).trans rfl; have hfz10_0 := blk_frozen BK327.out 0; have hfz10_1 := blk_frozen BK327.out 1; have hfz10_2 := blk_frozen BK327.out 2; have hfz10_3 := blk_frozen BK327.out 3; have hfz10_4 := blk_frozen BK327.out 4; have hfz10_5 := blk_frozen BK327.out 5; have hfz10_6 := blk_frozen BK327.out 6) | (go_at_call 8; (with_reducible refine (athanorlaw04_small.calls _ _ l0_2 _ _ l0_3 t329 _ ?side1 ?side2 ?side3 ?side4 A7.out).mono ?_); (case side1 => repeat (first|exact (Kd.C_below HR0_2.out HB.out) | with_reducible first|apply cA|apply cN|apply cD)); (case side2 => exact HC0_2.out); (case side3 => repeat (first|exact (Kd.C_below HR0_3.out HB.out) | with_reducible first|apply cA|apply cN|apply cD)); (case side4 => exact HC0_3.out); rintro e w11 ⟨rfl, hb⟩; have n0_ := aM (blk_below (g := gb327) (o := .cells #[.slice A0_0 l0_0.length c0_0, .slice A0_1 l0_1.length c0_1, .slice A0_2 l0_2.length c0_2, .slice A0_3 l0_3.length c0_3, .int .i64 a0_4, .int .i64 a0_5, .int .i64 a0_6] 47 (0, 0)) (by (with_reducible repeat (first|apply kN|apply kD|apply kA)); exact BK327.out) hb); have n1_ := aM (below_step (by repeat (first | (with_reducible first|exact HB.out|apply bA|apply bN|apply bD|refine bS ?_ GE327.out)|exact HB.out)) hb); clear BK327; clear HB; have BK327 := n0_; have HB := n1_; clear n0_ n1_; (try clear hb))))
    go_meet
    case rel => exact ⟨_, (!t329), (by first | rfl | (simp; done) | (simp [*]; done)), H', ⟨by first | omega|exact Nat.le_refl _⟩, ⟨by (with_reducible repeat (first|apply kN|apply kD|apply kA)); exact BK327.out⟩, ⟨by repeat (first | (with_reducible first|exact HB.out|apply bA|apply bN|apply bD|refine bS ?_ GE327.out)|exact HB.out)⟩⟩
  ·replace c6 := Bool.eq_false_iff.mpr c6
   subst c6
   have H1 : (athanorlaw04_TensorSums.j0 k a1 true l0_0 l0_1 l0_2 l0_3 a0_4 a0_5 a0_6) = some r := by rw [if_neg (show ¬ (false = true) by decide)] at H; exact H
   clear H
   have H := H1
   clear H1
   as_aux_lemma =>
    have H' := Aside0.mk H
    clear H
    have hcz12_0 : w4.cell? ⟨gb327, 0, none⟩ = some (.slice A0_0 l0_0.length c0_0) := (blk_cell BK327.out 0).trans rfl
    have hcz12_1 : w4.cell? ⟨gb327, 1, none⟩ = some (.slice A0_1 l0_1.length c0_1) := (blk_cell BK327.out 1).trans rfl
    have hcz12_2 : w4.cell? ⟨gb327, 2, none⟩ = some (.slice A0_2 l0_2.length c0_2) := (blk_cell BK327.out 2).trans rfl
    have hcz12_3 : w4.cell? ⟨gb327, 3, none⟩ = some (.slice A0_3 l0_3.length c0_3) := (blk_cell BK327.out 3).trans rfl
    have hcz12_4 : w4.cell? ⟨gb327, 4, none⟩ = some (.int .i64 a0_4) := (blk_cell BK327.out 4).trans rfl
    have hcz12_5 : w4.cell? ⟨gb327, 5, none⟩ = some (.int .i64 a0_5) := (blk_cell BK327.out 5).trans rfl
    have hcz12_6 : w4.cell? ⟨gb327, 6, none⟩ = some (.int .i64 a0_6) := (blk_cell BK327.out 6).trans rfl
    have hfz12_0 := blk_frozen BK327.out 0
    have hfz12_1 := blk_frozen BK327.out 1
    have hfz12_2 := blk_frozen BK327.out 2
    have hfz12_3 := blk_frozen BK327.out 3
    have hfz12_4 := blk_frozen BK327.out 4
    have hfz12_5 := blk_frozen BK327.out 5
    have hfz12_6 := blk_frozen BK327.out 6
    iterate 7 (first | go_quiet (first | ((with_reducible refine gate_callee (f := 8) rfl ?_); refine goesL_ (some 16) rfl rfl Try.func8 (by kernel_rfl) rfl #[.agg #[.slice A0_0 l0_0.length c0_0, .slice A0_1 l0_1.length c0_1]] rfl (by (try simp only [List.map_toArray, List.map_cons, List.map_nil]); first | done | rfl | (simp only [List.length_drop, List.length_take]; rfl)) ?_; (with_reducible refine (athanorlaw04_small.calls _ _ l0_0 _ _ l0_1 false _ ?side1 ?side2 ?side3 ?side4 A5.out).mono ?_); (case side1 => repeat (first|exact (Kd.C_below HR0_0.out HB.out) | with_reducible first|apply cA|apply cN|apply cD)); (case side2 => exact HC0_0.out); (case side3 => repeat (first|exact (Kd.C_below HR0_1.out HB.out) | with_reducible first|apply cA|apply cN|apply cD)); (case side4 => exact HC0_1.out); rintro e w13 ⟨rfl, hb⟩; refine ⟨_, rfl, ?_⟩; have n0_ := aM (blk_below (g := gb327) (o := .cells #[.slice A0_0 l0_0.length c0_0, .slice A0_1 l0_1.length c0_1, .slice A0_2 l0_2.length c0_2, .slice A0_3 l0_3.length c0_3, .int .i64 a0_4, .int .i64 a0_5, .int .i64 a0_6] 47 (0, 0)) (by (with_reducible repeat (first|apply kN|apply kD|apply kA)); exact BK327.out) hb); have n1_ := aM (below_step (by repeat (first | (with_reducible first|exact HB.out|apply bA|apply bN|apply bD|refine bS ?_ GE327.out)|exact HB.out)) hb); clear BK327; clear HB; have BK327 := n0_; have HB := n1_; clear n0_ n1_; (try clear hb))) | try go_wp2_with (first | ((with_reducible refine gate_callee (f := 8) rfl ?_); refine goesL_ (some 16) rfl rfl Try.func8 (by kernel_rfl) rfl #[.agg #[.slice A0_0 l0_0.length c0_0, .slice A0_1 l0_1.length c0_1]] rfl (by (try simp only [List.map_toArray, List.map_cons, List.map_nil]); first | done | rfl | (simp only [List.length_drop, List.length_take]; rfl)) ?_; (with_reducible refine (athanorlaw04_small.calls _ _ l0_0 _ _ l0_1 false _ ?side1 ?side2 ?side3 ?side4 A5.out).mono ?_); (case side1 => repeat (first|exact (Kd.C_below HR0_0.out HB.out) | with_reducible first|apply cA|apply cN|apply cD)); (case side2 => exact HC0_0.out); (case side3 => repeat (first|exact (Kd.C_below HR0_1.out HB.out) | with_reducible first|apply cA|apply cN|apply cD)); (case side4 => exact HC0_1.out); rintro e w13 ⟨rfl, hb⟩; refine ⟨_, rfl, ?_⟩; have n0_ := aM (blk_below (g := gb327) (o := .cells #[.slice A0_0 l0_0.length c0_0, .slice A0_1 l0_1.length c0_1, .slice A0_2 l0_2.length c0_2, .slice A0_3 l0_3.length c0_3, .int .i64 a0_4, .int .i64 a0_5, .int .i64 a0_6] 47 (0, 0)) (by (with_reducible repeat (first|apply kN|apply kD|apply kA)); exact BK327.out) hb); have n1_ := aM (below_step (by repeat (first | (with_reducible first|exact HB.out|apply bA|apply bN|apply bD|refine bS ?_ GE327.out)|exact HB.out)) hb); clear BK327; clear HB; have BK327 := n0_; have HB := n1_; clear n0_ n1_; (try clear hb))))
    go_meet
    case rel => exact ⟨_, (true), (by first | rfl | (simp; done) | (simp [*]; done)), H', ⟨by first | omega|exact Nat.le_refl _⟩, ⟨by (with_reducible repeat (first|apply kN|apply kD|apply kA)); exact BK327.out⟩, ⟨by repeat (first | (with_reducible first|exact HB.out|apply bA|apply bN|apply bD|refine bS ?_ GE327.out)|exact HB.out)⟩⟩
 case rest =>
  clear HC3
  (try clear c6); (try clear hcz10_0); (try clear hcz10_1); (try clear hcz10_2); (try clear hcz10_3); (try clear hcz10_4); (try clear hcz10_5); (try clear hcz10_6); (try clear hcz12_0); (try clear hcz12_1); (try clear hcz12_2); (try clear hcz12_3); (try clear hcz12_4); (try clear hcz12_5); (try clear hcz12_6); (try clear hcz8_0); (try clear hcz8_1); (try clear hcz8_2); (try clear hcz8_3); (try clear hcz8_4); (try clear hcz8_5); (try clear hcz8_6); (try clear hfz10_0); (try clear hfz10_1); (try clear hfz10_2); (try clear hfz10_3); (try clear hfz10_4); (try clear hfz10_5); (try clear hfz10_6); (try clear hfz12_0); (try clear hfz12_1); (try clear hfz12_2); (try clear hfz12_3); (try clear hfz12_4); (try clear hfz12_5); (try clear hfz12_6); (try clear hfz8_0); (try clear hfz8_1); (try clear hfz8_2); (try clear hfz8_3); (try clear hfz8_4); (try clear hfz8_5); (try clear hfz8_6)
  obtain ⟨kq, x23_2, rfl, HA, HJ2, BK327, HB⟩ := hcut
  cases kq with
  | zero => exact absurd HA.out (by simp [athanorlaw04_TensorSums.j0])
  | succ kj2 =>
   have H := HA.out
   clear HA
   simp only [athanorlaw04_TensorSums.j0] at H
   by_cases c14 : x23_2 = true
   ·subst c14
    have H1 : ((athanorlaw04_awake.f kj2).bind fun t330 => (some t330)) = some r := by rw [if_pos rfl] at H; exact H
    clear H
    have H := H1
    clear H1
    replace H := Option.bind_eq_some_iff.mp H
    obtain ⟨t330, A150, H⟩ := H
    replace H : (some t330) = some r := H
    have A15 := Aside0.mk A150
    clear A150
    as_aux_lemma =>
     obtain rfl := Option.some.inj H
     iterate 7 (first | go_quiet (first | ((with_reducible refine gate_callee (f := 9) rfl ?_); refine goesL_ (some 24) rfl rfl Try.func9 (by kernel_rfl) rfl #[] rfl (by (try simp only [List.map_toArray, List.map_cons, List.map_nil]); first | done | rfl | (simp only [List.length_drop, List.length_take]; rfl)) ?_; (with_reducible refine (athanorlaw04_awake.calls kj2  t330 _ A15.out).mono ?_); rintro e w16 ⟨rfl, hb⟩; refine ⟨_, rfl, ?_⟩; have n0_ := aM (blk_below (g := gb327) (o := .cells #[.slice A0_0 l0_0.length c0_0, .slice A0_1 l0_1.length c0_1, .slice A0_2 l0_2.length c0_2, .slice A0_3 l0_3.length c0_3, .int .i64 a0_4, .int .i64 a0_5, .int .i64 a0_6] 47 (0, 0)) (by (with_reducible repeat (first|apply kN|apply kD|apply kA)); exact BK327.out) hb); have n1_ := aM (below_step (by repeat (first | (with_reducible first|exact HB.out|apply bA|apply bN|apply bD|refine bS ?_ GE327.out)|exact HB.out)) hb); clear BK327; clear HB; have BK327 := n0_; have HB := n1_; clear n0_ n1_; (try clear hb))) | try go_wp2_with (first | ((with_reducible refine gate_callee (f := 9) rfl ?_); refine goesL_ (some 24) rfl rfl Try.func9 (by kernel_rfl) rfl #[] rfl (by (try simp only [List.map_toArray, List.map_cons, List.map_nil]); first | done | rfl | (simp only [List.length_drop, List.length_take]; rfl)) ?_; (with_reducible refine (athanorlaw04_awake.calls kj2  t330 _ A15.out).mono ?_); rintro e w16 ⟨rfl, hb⟩; refine ⟨_, rfl, ?_⟩; have n0_ := aM (blk_below (g := gb327) (o := .cells #[.slice A0_0 l0_0.length c0_0, .slice A0_1 l0_1.length c0_1, .slice A0_2 l0_2.length c0_2, .slice A0_3 l0_3.length c0_3, .int .i64 a0_4, .int .i64 a0_5, .int .i64 a0_6] 47 (0, 0)) (by (with_reducible repeat (first|apply kN|apply kD|apply kA)); exact BK327.out) hb); have n1_ := aM (below_step (by repeat (first | (with_reducible first|exact HB.out|apply bA|apply bN|apply bD|refine bS ?_ GE327.out)|exact HB.out)) hb); clear BK327; clear HB; have BK327 := n0_; have HB := n1_; clear n0_ n1_; (try clear hb))))
     go_ret
     exact ⟨by first | rfl | (simp [errW_none, errW_some] <;> rfl) | (simp [*, errW_none, errW_some] <;> rfl), by repeat (first | (with_reducible first|exact HB.out|apply bA|apply bN|apply bD|refine bS ?_ GE327.out)|exact HB.out)⟩
   ·replace c14 := Bool.eq_false_iff.mpr c14
    subst c14
    have H1 : ((tensor_Add.f kj2 l0_0 l0_1 l0_2 l0_3).bind fun bt331 => ((tensor_Scale.f kj2 l0_0 l0_1 a1).bind fun bt339 => ((tensor_Dot.f kj2 l0_0 l0_1 l0_2 l0_3).bind fun bt347 => ((athanorlaw04_right.f kj2 l0_0 l0_1).bind fun t349 => (if (t349 != (bt339.2.2 == 0)) = true then (athanorlaw04_TensorSums.j1 kj2 a1 bt331.2.2 bt347.1 bt347.2 true l0_0 l0_1 l0_2 l0_3 a0_4 a0_5 a0_6 bt331.1 bt331.2.1 bt339.1 bt339.2.1) else (if bt339.2.2 = 0 then (athanorlaw04_TensorSums.j1 kj2 a1 bt331.2.2 bt347.1 bt347.2 false l0_0 l0_1 l0_2 l0_3 a0_4 a0_5 a0_6 bt331.1 bt331.2.1 bt339.1 bt339.2.1) else (if bt339.2.2 = 20 then (athanorlaw04_TensorSums.j1 kj2 a1 bt331.2.2 bt347.1 bt347.2 ((bt339.2.1.length : Int) != 0) l0_0 l0_1 l0_2 l0_3 a0_4 a0_5 a0_6 bt331.1 bt331.2.1 bt339.1 bt339.2.1) else (athanorlaw04_TensorSums.j1 kj2 a1 bt331.2.2 bt347.1 bt347.2 true l0_0 l0_1 l0_2 l0_3 a0_4 a0_5 a0_6 bt331.1 bt331.2.1 bt339.1 bt339.2.1)))))))) = some r := by rw [if_neg (show ¬ (false = true) by decide)] at H; exact H
    clear H
    have H := H1
    clear H1
    replace H := Option.bind_eq_some_iff.mp H
    obtain ⟨⟨t331, t334, t337⟩, A170, H⟩ := H
    replace H : ((tensor_Scale.f kj2 l0_0 l0_1 a1).bind fun bt339 => ((tensor_Dot.f kj2 l0_0 l0_1 l0_2 l0_3).bind fun bt347 => ((athanorlaw04_right.f kj2 l0_0 l0_1).bind fun t349 => (if (t349 != (bt339.2.2 == 0)) = true then (athanorlaw04_TensorSums.j1 kj2 a1 t337 bt347.1 bt347.2 true l0_0 l0_1 l0_2 l0_3 a0_4 a0_5 a0_6 t331 t334 bt339.1 bt339.2.1) else (if bt339.2.2 = 0 then (athanorlaw04_TensorSums.j1 kj2 a1 t337 bt347.1 bt347.2 false l0_0 l0_1 l0_2 l0_3 a0_4 a0_5 a0_6 t331 t334 bt339.1 bt339.2.1) else (if bt339.2.2 = 20 then (athanorlaw04_TensorSums.j1 kj2 a1 t337 bt347.1 bt347.2 ((bt339.2.1.length : Int) != 0) l0_0 l0_1 l0_2 l0_3 a0_4 a0_5 a0_6 t331 t334 bt339.1 bt339.2.1) else (athanorlaw04_TensorSums.j1 kj2 a1 t337 bt347.1 bt347.2 true l0_0 l0_1 l0_2 l0_3 a0_4 a0_5 a0_6 t331 t334 bt339.1 bt339.2.1))))))) = some r := H
    have A17 := Aside0.mk A170
    clear A170
    replace H := Option.bind_eq_some_iff.mp H
    obtain ⟨⟨t339, t342, t345⟩, A180, H⟩ := H
    replace H : ((tensor_Dot.f kj2 l0_0 l0_1 l0_2 l0_3).bind fun bt347 => ((athanorlaw04_right.f kj2 l0_0 l0_1).bind fun t349 => (if (t349 != (t345 == 0)) = true then (athanorlaw04_TensorSums.j1 kj2 a1 t337 bt347.1 bt347.2 true l0_0 l0_1 l0_2 l0_3 a0_4 a0_5 a0_6 t331 t334 t339 t342) else (if t345 = 0 then (athanorlaw04_TensorSums.j1 kj2 a1 t337 bt347.1 bt347.2 false l0_0 l0_1 l0_2 l0_3 a0_4 a0_5 a0_6 t331 t334 t339 t342) else (if t345 = 20 then (athanorlaw04_TensorSums.j1 kj2 a1 t337 bt347.1 bt347.2 ((t342.length : Int) != 0) l0_0 l0_1 l0_2 l0_3 a0_4 a0_5 a0_6 t331 t334 t339 t342) else (athanorlaw04_TensorSums.j1 kj2 a1 t337 bt347.1 bt347.2 true l0_0 l0_1 l0_2 l0_3 a0_4 a0_5 a0_6 t331 t334 t339 t342)))))) = some r := H
    have A18 := Aside0.mk A180
    clear A180
    replace H := Option.bind_eq_some_iff.mp H
    obtain ⟨⟨t347, t348⟩, A190, H⟩ := H
    replace H : ((athanorlaw04_right.f kj2 l0_0 l0_1).bind fun t349 => (if (t349 != (t345 == 0)) = true then (athanorlaw04_TensorSums.j1 kj2 a1 t337 t347 t348 true l0_0 l0_1 l0_2 l0_3 a0_4 a0_5 a0_6 t331 t334 t339 t342) else (if t345 = 0 then (athanorlaw04_TensorSums.j1 kj2 a1 t337 t347 t348 false l0_0 l0_1 l0_2 l0_3 a0_4 a0_5 a0_6 t331 t334 t339 t342) else (if t345 = 20 then (athanorlaw04_TensorSums.j1 kj2 a1 t337 t347 t348 ((t342.length : Int) != 0) l0_0 l0_1 l0_2 l0_3 a0_4 a0_5 a0_6 t331 t334 t339 t342) else (athanorlaw04_TensorSums.j1 kj2 a1 t337 t347 t348 true l0_0 l0_1 l0_2 l0_3 a0_4 a0_5 a0_6 t331 t334 t339 t342))))) = some r := H
    have A19 := Aside0.mk A190
    clear A190
    have HC20 := Aside0.mk H
    clear H
    have hcz21_0 : wc.cell? ⟨gb327, 0, none⟩ = some (.slice A0_0 l0_0.length c0_0) := (blk_cell BK327.out 0).trans rfl
    have hcz21_1 : wc.cell? ⟨gb327, 1, none⟩ = some (.slice A0_1 l0_1.length c0_1) := (blk_cell BK327.out 1).trans rfl
    have hcz21_2 : wc.cell? ⟨gb327, 2, none⟩ = some (.slice A0_2 l0_2.length c0_2) := (blk_cell BK327.out 2).trans rfl
    have hcz21_3 : wc.cell? ⟨gb327, 3, none⟩ = some (.slice A0_3 l0_3.length c0_3) := (blk_cell BK327.out 3).trans rfl
    have hcz21_4 : wc.cell? ⟨gb327, 4, none⟩ = some (.int .i64 a0_4) := (blk_cell BK327.out 4).trans rfl
    have hcz21_5 : wc.cell? ⟨gb327, 5, none⟩ = some (.int .i64 a0_5) := (blk_cell BK327.out 5).trans rfl
    have hcz21_6 : wc.cell? ⟨gb327, 6, none⟩ = some (.int .i64 a0_6) := (blk_cell BK327.out 6).trans rfl
    have hfz21_0 := blk_frozen BK327.out 0
    have hfz21_1 := blk_frozen BK327.out 1
    have hfz21_2 := blk_frozen BK327.out 2
    have hfz21_3 := blk_frozen BK327.out 3
    have hfz21_4 := blk_frozen BK327.out 4
    have hfz21_5 := blk_frozen BK327.out 5
    have hfz21_6 := blk_frozen BK327.out 6
    go_upto_region 6 with (first | ((with_reducible refine gate_callee (f := 22) rfl ?_); refine goesL_ (some 30) rfl rfl Try.func22 (by kernel_rfl) rfl #[.agg #[.slice A0_0 l0_0.length c0_0, .slice A0_1 l0_1.length c0_1], .agg #[.slice A0_2 l0_2.length c0_2, .slice A0_3 l0_3.length c0_3]] rfl (by (try simp only [List.map_toArray, List.map_cons, List.map_nil]); first | done | rfl | (simp only [List.length_drop, List.length_take]; rfl)) ?_; (with_reducible refine (tensor_Add.calls kj2 _ _ l0_0 _ _ l0_1 _ _ l0_2 _ _ l0_3 t331 t334 t337 _ ?side1 ?side2 ?side3 ?side4 ?side5 ?side6 ?side7 ?side8 A17.out).mono ?_); (case side1 => repeat (first|exact (Kd.C_below HR0_0.out HB.out) | with_reducible first|apply cA|apply cN|apply cD)); (case side2 => exact HC0_0.out); (case side3 => repeat (first|exact (Kd.C_below HR0_1.out HB.out) | with_reducible first|apply cA|apply cN|apply cD)); (case side4 => exact HC0_1.out); (case side5 => repeat (first|exact (Kd.C_below HR0_2.out HB.out) | with_reducible first|apply cA|apply cN|apply cD)); (case side6 => exact HC0_2.out); (case side7 => repeat (first|exact (Kd.C_below HR0_3.out HB.out) | with_reducible first|apply cA|apply cN|apply cD)); (case side8 => exact HC0_3.out); rintro e w22 ⟨v332, v335, rfl, ho0, ho1, hb⟩; refine ⟨_, rfl, ?_⟩; have n0_ := aM (Kd.R_lower ho0 (below_size (by repeat (first | (with_reducible first|exact HB.out|apply bA|apply bN|apply bD|refine bS ?_ GE327.out)|exact HB.out)))); have n1_ := aM (Kd.R_lower ho1 (below_size (by repeat (first | (with_reducible first|exact HB.out|apply bA|apply bN|apply bD|refine bS ?_ GE327.out)|exact HB.out)))); have n2_ := aM (blk_below (g := gb327) (o := .cells #[.slice A0_0 l0_0.length c0_0, .slice A0_1 l0_1.length c0_1, .slice A0_2 l0_2.length c0_2, .slice A0_3 l0_3.length c0_3, .int .i64 a0_4, .int .i64 a0_5, .int .i64 a0_6] 47 (0, 0)) (by (with_reducible repeat (first|apply kN|apply kD|apply kA)); exact BK327.out) hb); have n3_ := aM (below_step (by repeat (first | (with_reducible first|exact HB.out|apply bA|apply bN|apply bD|refine bS ?_ GE327.out)|exact HB.out)) hb); clear BK327; clear HB; have HO333 := n0_; have HO336 := n1_; have BK327 := n2_; have HB := n3_; clear n0_ n1_ n2_ n3_; (try clear hb); (try clear ho0); (try clear ho1)) | ((with_reducible refine gate_dst (N := 5) rfl ?_); (try (refine gate_guard (by rfl) ?_; dsimp only)); refine box_event ?hg (N := 5) ?hd (cs := #[.slice none 0 0, .slice none 0 0]) (t := 26) ?hr ?_; (case hd => rfl); (case hg => rfl); (case hr => first | (go_simp; done) | (go_simp; rfl)); intro gb338 hg w23 hbox hb; have n0_ := aM (Kd.R_below (by (with_reducible repeat (first|apply rA|apply rN|apply rD)); exact HO333.out) hb); have n1_ := aM (Kd.R_below (by (with_reducible repeat (first|apply rA|apply rN|apply rD)); exact HO336.out) hb); have n2_ := aM (blk_below (g := gb327) (o := .cells #[.slice A0_0 l0_0.length c0_0, .slice A0_1 l0_1.length c0_1, .slice A0_2 l0_2.length c0_2, .slice A0_3 l0_3.length c0_3, .int .i64 a0_4, .int .i64 a0_5, .int .i64 a0_6] 47 (0, 0)) (by (with_reducible repeat (first|apply kN|apply kD|apply kA)); exact BK327.out) hb); have n3_ := aM (below_step (by repeat (first | (with_reducible first|exact HB.out|apply bA|apply bN|apply bD|refine bS ?_ GE327.out)|exact HB.out)) hb); have n4_ := aM (hbox); have n5_ := aM ((by rw [hg]; exact (below_size (by repeat (first | (with_reducible first|exact HB.out|apply bA|apply bN|apply bD|refine bS ?_ GE327.out)|exact HB.out))) : w.heap.size ≤ gb338)); have n6_ := aM ((by rw [hg]; exact (below_size (by repeat (first | (with_reducible first|exact HB.out|apply bA|apply bN|apply bD|refine bS ?_ GE327.out)|exact HB.out))) : w.heap.size ≤ gb338)); have n7_ := aM ((by rw [hg]; exact Nat.ne_of_lt (blk_lt (g := gb327) (o := .cells #[.slice A0_0 l0_0.length c0_0, .slice A0_1 l0_1.length c0_1, .slice A0_2 l0_2.length c0_2, .slice A0_3 l0_3.length c0_3, .int .i64 a0_4, .int .i64 a0_5, .int .i64 a0_6] 47 (0, 0)) (by (with_reducible repeat (first|apply kN|apply kD|apply kA)); exact BK327.out)) : gb327 ≠ gb338)); have n8_ := aM ((by rw [hg]; exact Nat.ne_of_gt (blk_lt (g := gb327) (o := .cells #[.slice A0_0 l0_0.length c0_0, .slice A0_1 l0_1.length c0_1, .slice A0_2 l0_2.length c0_2, .slice A0_3 l0_3.length c0_3, .int .i64 a0_4, .int .i64 a0_5, .int .i64 a0_6] 47 (0, 0)) (by (with_reducible repeat (first|apply kN|apply kD|apply kA)); exact BK327.out)) : gb338 ≠ gb327)); clear HO333; clear HO336; clear BK327; clear HB; have HO333 := n0_; have HO336 := n1_; have BK327 := n2_; have HB := n3_; have BK338 := n4_; have GW338 := n5_; have GE338 := n6_; have NB327_338 := n7_; have NB338_327 := n8_; clear n0_ n1_ n2_ n3_ n4_ n5_ n6_ n7_ n8_; clear hb hbox hg; obtain ⟨Ao24, co24, eo24⟩ := Kd.R_slice HO333.out; subst eo24; have hnb25 := NB338_327.out; have hnc25 := NB327_338.out; have hcz26_0 : w23.cell? ⟨gb338, 0, none⟩ = some (.slice none 0 0) := (blk_cell BK338.out 0).trans rfl; have hcz26_1 : w23.cell? ⟨gb338, 1, none⟩ = some (.slice none 0 0) := (blk_cell BK338.out 1).trans rfl; have hfz26_0 := blk_frozen BK338.out 0; have hfz26_1 := blk_frozen BK338.out 1; obtain ⟨Ao27, co27, eo27⟩ := Kd.R_slice HO336.out; subst eo27; have hcz28_0 : w23.cell? ⟨gb327, 0, none⟩ = some (.slice A0_0 l0_0.length c0_0) := (blk_cell BK327.out 0).trans rfl; have hcz28_1 : w23.cell? ⟨gb327, 1, none⟩ = some (.slice A0_1 l0_1.length c0_1) := (blk_cell BK327.out 1).trans rfl; have hcz28_2 : w23.cell? ⟨gb327, 2, none⟩ = some (.slice A0_2 l0_2.length c0_2) := (blk_cell BK327.out 2).trans rfl; have hcz28_3 : w23.cell? ⟨gb327, 3, none⟩ = some (.slice A0_3 l0_3.length c0_3) := (blk_cell BK327.out 3).trans rfl; have hcz28_4 : w23.cell? ⟨gb327, 4, none⟩ = some (.int .i64 a0_4) := (blk_cell BK327.out 4).trans rfl; have hcz28_5 : w23.cell? ⟨gb327, 5, none⟩ = some (.int .i64 a0_5) := (blk_cell BK327.out 5).trans rfl; have hcz28_6 : w23.cell? ⟨gb327, 6, none⟩ = some (.int .i64 a0_6) := (blk_cell BK327.out 6).trans rfl; have hfz28_0 := blk_frozen BK327.out 0; have hfz28_1 := blk_frozen BK327.out 1; have hfz28_2 := blk_frozen BK327.out 2; have hfz28_3 := blk_frozen BK327.out 3; have hfz28_4 := blk_frozen BK327.out 4; have hfz28_5 := blk_frozen BK327.out 5; have hfz28_6 := blk_frozen BK327.out 6) | ((with_reducible refine gate_callee (f := 23) rfl ?_); refine goesL_ (some 37) rfl rfl Try.func23 (by kernel_rfl) rfl #[.agg #[.slice A0_0 l0_0.length c0_0, .slice A0_1 l0_1.length c0_1], .int .i64 a1] rfl (by (try simp only [List.map_toArray, List.map_cons, List.map_nil]); first | done | rfl | (simp only [List.length_drop, List.length_take]; rfl)) ?_; (with_reducible refine (tensor_Scale.calls kj2 _ _ l0_0 _ _ l0_1 a1 t339 t342 t345 _ ?side1 ?side2 ?side3 ?side4 A18.out).mono ?_); (case side1 => exact Kd.C_below HR0_0.out (by repeat (first | (with_reducible first|exact HB.out|apply bA|apply bN|apply bD|refine bS ?_ GE327.out|refine bS ?_ GE338.out)|exact HB.out))); (case side2 => exact HC0_0.out); (case side3 => exact Kd.C_below HR0_1.out (by repeat (first | (with_reducible first|exact HB.out|apply bA|apply bN|apply bD|refine bS ?_ GE327.out|refine bS ?_ GE338.out)|exact HB.out))); (case side4 => exact HC0_1.out); rintro e w29 ⟨v340, v343, rfl, ho0, ho1, hb⟩; refine ⟨_, rfl, ?_⟩; have n0_ := aM (Kd.R_elder' (by (with_reducible repeat (first|apply rA|apply rN|apply rD)); exact (Kd.R_mono (Kd.R_far (p := ⟨gb338, 1, none⟩) (Kd.R_far (p := ⟨gb338, 0, none⟩) (Kd.R_types HO333.out BK338.out (by decide)) (fun _ hk => hk.2) (.slice Ao24 t331.length co24)) (fun _ hk => hk.2) (.slice Ao27 t334.length co27)) (fun _ h_ => h_.1))) (Kd.R_base ho0) hb); have n1_ := aM (Kd.R_elder' (by (with_reducible repeat (first|apply rA|apply rN|apply rD)); exact (Kd.R_mono (Kd.R_far (p := ⟨gb338, 1, none⟩) (Kd.R_far (p := ⟨gb338, 0, none⟩) (Kd.R_types HO336.out BK338.out (by decide)) (fun _ hk => hk.2) (.slice Ao24 t331.length co24)) (fun _ hk => hk.2) (.slice Ao27 t334.length co27)) (fun _ h_ => h_.1))) (Kd.R_base ho1) hb); have n2_ := aM (Kd.R_lower (Kd.R_new' ho0 (Kd.R_lt (by (with_reducible repeat (first|apply rA|apply rN|apply rD)); exact (Kd.R_mono (Kd.R_far (p := ⟨gb338, 1, none⟩) (Kd.R_far (p := ⟨gb338, 0, none⟩) (Kd.R_types HO333.out BK338.out (by decide)) (fun _ hk => hk.2) (.slice Ao24 t331.length co24)) (fun _ hk => hk.2) (.slice Ao27 t334.length co27)) (fun _ h_ => h_.1))))) (below_size (by repeat (first | (with_reducible first|exact HB.out|apply bA|apply bN|apply bD|refine bS ?_ GE327.out|refine bS ?_ GE338.out)|exact HB.out)))); have n3_ := aM (Kd.R_lower (Kd.R_new' ho1 (Kd.R_lt (by (with_reducible repeat (first|apply rA|apply rN|apply rD)); exact (Kd.R_mono (Kd.R_far (p := ⟨gb338, 1, none⟩) (Kd.R_far (p := ⟨gb338, 0, none⟩) (Kd.R_types HO336.out BK338.out (by decide)) (fun _ hk => hk.2) (.slice Ao24 t331.length co24)) (fun _ hk => hk.2) (.slice Ao27 t334.length co27)) (fun _ h_ => h_.1))))) (below_size (by repeat (first | (with_reducible first|exact HB.out|apply bA|apply bN|apply bD|refine bS ?_ GE327.out|refine bS ?_ GE338.out)|exact HB.out)))); have n4_ := aM (blk_below (g := gb327) (o := .cells #[.slice A0_0 l0_0.length c0_0, .slice A0_1 l0_1.length c0_1, .slice A0_2 l0_2.length c0_2, .slice A0_3 l0_3.length c0_3, .int .i64 a0_4, .int .i64 a0_5, .int .i64 a0_6] 47 (0, 0)) (by (with_reducible repeat (first|apply kN|apply kD|apply kA)); refine blk_far ?_ NB327_338.out _; (with_reducible repeat (first|apply kN|apply kD|apply kA)); refine blk_far ?_ NB327_338.out _; (with_reducible repeat (first|apply kN|apply kD|apply kA)); exact BK327.out) hb); have n5_ := aM (blk_below (g := gb338) (o := .cells #[.slice Ao24 t331.length co24, .slice Ao27 t334.length co27] 26 (0, 0)) (by (with_reducible repeat (first|apply kN|apply kD|apply kA)); refine blk_put (cs := #[.slice Ao24 t331.length co24, .slice none 0 0]) ?_ 1 _ rfl; (with_reducible repeat (first|apply kN|apply kD|apply kA)); refine blk_put (cs := #[.slice none 0 0, .slice none 0 0]) ?_ 0 _ rfl; (with_reducible repeat (first|apply kN|apply kD|apply kA)); exact BK338.out) hb); have n6_ := aM (below_step (by repeat (first | (with_reducible first|exact HB.out|apply bA|apply bN|apply bD|refine bS ?_ GE327.out|refine bS ?_ GE338.out)|exact HB.out)) hb); clear HO333; clear HO336; clear BK327; clear BK338; clear HB; have HO333 := n0_; have HO336 := n1_; have HO341 := n2_; have HO344 := n3_; have BK327 := n4_; have BK338 := n5_; have HB := n6_; clear n0_ n1_ n2_ n3_ n4_ n5_ n6_; (try clear hb); (try clear hk); (try clear ho0); (try clear ho1)) | ((with_reducible refine gate_dst (N := 7) rfl ?_); (try (refine gate_guard (by rfl) ?_; dsimp only)); refine box_event ?hg (N := 7) ?hd (cs := #[.slice none 0 0, .slice none 0 0]) (t := 26) ?hr ?_; (case hd => rfl); (case hg => rfl); (case hr => first | (go_simp; done) | (go_simp; rfl)); intro gb346 hg w30 hbox hb; have n0_ := aM (Kd.R_below (by (with_reducible repeat (first|apply rA|apply rN|apply rD)); exact HO333.out) hb); have n1_ := aM (Kd.R_below (by (with_reducible repeat (first|apply rA|apply rN|apply rD)); exact HO336.out) hb); have n2_ := aM (Kd.R_below (by (with_reducible repeat (first|apply rA|apply rN|apply rD)); exact HO341.out) hb); have n3_ := aM (Kd.R_below (by (with_reducible repeat (first|apply rA|apply rN|apply rD)); exact HO344.out) hb); have n4_ := aM (blk_below (g := gb327) (o := .cells #[.slice A0_0 l0_0.length c0_0, .slice A0_1 l0_1.length c0_1, .slice A0_2 l0_2.length c0_2, .slice A0_3 l0_3.length c0_3, .int .i64 a0_4, .int .i64 a0_5, .int .i64 a0_6] 47 (0, 0)) (by (with_reducible repeat (first|apply kN|apply kD|apply kA)); exact BK327.out) hb); have n5_ := aM (blk_below (g := gb338) (o := .cells #[.slice Ao24 t331.length co24, .slice Ao27 t334.length co27] 26 (0, 0)) (by (with_reducible repeat (first|apply kN|apply kD|apply kA)); exact BK338.out) hb); have n6_ := aM (below_step (by repeat (first | (with_reducible first|exact HB.out|apply bA|apply bN|apply bD|refine bS ?_ GE327.out|refine bS ?_ GE338.out)|exact HB.out)) hb); have n7_ := aM (hbox); have n8_ := aM ((by rw [hg]; exact (below_size (by repeat (first | (with_reducible first|exact HB.out|apply bA|apply bN|apply bD|refine bS ?_ GE327.out|refine bS ?_ GE338.out)|exact HB.out))) : w.heap.size ≤ gb346)); have n9_ := aM ((by rw [hg]; exact (below_size (by repeat (first | (with_reducible first|exact HB.out|apply bA|apply bN|apply bD|refine bS ?_ GE327.out|refine bS ?_ GE338.out)|exact HB.out))) : w.heap.size ≤ gb346)); have n10_ := aM ((by rw [hg]; exact Nat.ne_of_lt (blk_lt (g := gb327) (o := .cells #[.slice A0_0 l0_0.length c0_0, .slice A0_1 l0_1.length c0_1, .slice A0_2 l0_2.length c0_2, .slice A0_3 l0_3.length c0_3, .int .i64 a0_4, .int .i64 a0_5, .int .i64 a0_6] 47 (0, 0)) (by (with_reducible repeat (first|apply kN|apply kD|apply kA)); exact BK327.out)) : gb327 ≠ gb346)); have n11_ := aM ((by rw [hg]; exact Nat.ne_of_gt (blk_lt (g := gb327) (o := .cells #[.slice A0_0 l0_0.length c0_0, .slice A0_1 l0_1.length c0_1, .slice A0_2 l0_2.length c0_2, .slice A0_3 l0_3.length c0_3, .int .i64 a0_4, .int .i64 a0_5, .int .i64 a0_6] 47 (0, 0)) (by (with_reducible repeat (first|apply kN|apply kD|apply kA)); exact BK327.out)) : gb346 ≠ gb327)); have n12_ := aM ((by rw [hg]; exact Nat.ne_of_lt (blk_lt (g := gb338) (o := .cells #[.slice Ao24 t331.length co24, .slice Ao27 t334.length co27] 26 (0, 0)) (by (with_reducible repeat (first|apply kN|apply kD|apply kA)); exact BK338.out)) : gb338 ≠ gb346)); have n13_ := aM ((by rw [hg]; exact Nat.ne_of_gt (blk_lt (g := gb338) (o := .cells #[.slice Ao24 t331.length co24, .slice Ao27 t334.length co27] 26 (0, 0)) (by (with_reducible repeat (first|apply kN|apply kD|apply kA)); exact BK338.out)) : gb346 ≠ gb338)); clear HO333; clear HO336; clear HO341; clear HO344; clear BK327; clear BK338; clear HB; have HO333 := n0_; have HO336 := n1_; have HO341 := n2_; have HO344 := n3_; have BK327 := n4_; have BK338 := n5_; have HB := n6_; have BK346 := n7_; have GW346 := n8_; have GE346 := n9_; have NB327_346 := n10_; have NB346_327 := n11_; have NB338_346 := n12_; have NB346_338 := n13_; clear n0_ n1_ n2_ n3_ n4_ n5_ n6_ n7_ n8_ n9_ n10_ n11_ n12_ n13_; clear hb hbox hg; obtain ⟨Ao31, co31, eo31⟩ := Kd.R_slice HO341.out; subst eo31; have hnb32 := NB346_327.out; have hnc32 := NB327_346.out; have hnb33 := NB346_338.out; have hnc33 := NB338_346.out; have hcz34_0 : w30.cell? ⟨gb346, 0, none⟩ = some (.slice none 0 0) := (blk_cell BK346.out 0).trans rfl; have hcz34_1 : w30.cell? ⟨gb346, 1, none⟩ = some (.slice none 0 0) := (blk_cell BK346.out 1).trans rfl; have hfz34_0 := blk_frozen BK346.out 0; have hfz34_1 := blk_frozen BK346.out 1; obtain ⟨Ao35, co35, eo35⟩ := Kd.R_slice HO344.out; subst eo35; have hcz36_0 : w30.cell? ⟨gb327, 0, none⟩ = some (.slice A0_0 l0_0.length c0_0) := (blk_cell BK327.out 0).trans rfl; have hcz36_1 : w30.cell? ⟨gb327, 1, none⟩ = some (.slice A0_1 l0_1.length c0_1) := (blk_cell BK327.out 1).trans rfl; have hcz36_2 : w30.cell? ⟨gb327, 2, none⟩ = some (.slice A0_2 l0_2.length c0_2) := (blk_cell BK327.out 2).trans rfl; have hcz36_3 : w30.cell? ⟨gb327, 3, none⟩ = some (.slice A0_3 l0_3.length c0_3) := (blk_cell BK327.out 3).trans rfl; have hcz36_4 : w30.cell? ⟨gb327, 4, none⟩ = some (.int .i64 a0_4) := (blk_cell BK327.out 4).trans rfl; have hcz36_5 : w30.cell? ⟨gb327, 5, none⟩ = some (.int .i64 a0_5) := (blk_cell BK327.out 5).trans rfl; have hcz36_6 : w30.cell? ⟨gb327, 6, none⟩ = some (.int .i64 a0_6) := (blk_cell BK327.out 6).trans rfl; have hfz36_0 := blk_frozen BK327.out 0; have hfz36_1 := blk_frozen BK327.out 1; have hfz36_2 := blk_frozen BK327.out 2; have hfz36_3 := blk_frozen BK327.out 3; have hfz36_4 := blk_frozen BK327.out 4; have hfz36_5 := blk_frozen BK327.out 5; have hfz36_6 := blk_frozen BK327.out 6) | ((with_reducible refine gate_callee (f := 24) rfl ?_); refine goesL_ (some 45) rfl rfl Try.func24 (by kernel_rfl) rfl #[.agg #[.slice A0_0 l0_0.length c0_0, .slice A0_1 l0_1.length c0_1], .agg #[.slice A0_2 l0_2.length c0_2, .slice A0_3 l0_3.length c0_3]] rfl (by (try simp only [List.map_toArray, List.map_cons, List.map_nil]); first | done | rfl | (simp only [List.length_drop, List.length_take]; rfl)) ?_; (with_reducible refine (tensor_Dot.calls kj2 _ _ l0_0 _ _ l0_1 _ _ l0_2 _ _ l0_3 t347 t348 _ ?side1 ?side2 ?side3 ?side4 ?side5 ?side6 ?side7 ?side8 A19.out).mono ?_); (case side1 => exact Kd.C_below HR0_0.out (by repeat (first | (with_reducible first|exact HB.out|apply bA|apply bN|apply bD|refine bS ?_ GE327.out|refine bS ?_ GE338.out|refine bS ?_ GE346.out)|exact HB.out))); (case side2 => exact HC0_0.out); (case side3 => exact Kd.C_below HR0_1.out (by repeat (first | (with_reducible first|exact HB.out|apply bA|apply bN|apply bD|refine bS ?_ GE327.out|refine bS ?_ GE338.out|refine bS ?_ GE346.out)|exact HB.out))); (case side4 => exact HC0_1.out); (case side5 => exact Kd.C_below HR0_2.out (by repeat (first | (with_reducible first|exact HB.out|apply bA|apply bN|apply bD|refine bS ?_ GE327.out|refine bS ?_ GE338.out|refine bS ?_ GE346.out)|exact HB.out))); (case side6 => exact HC0_2.out); (case side7 => exact Kd.C_below HR0_3.out (by repeat (first | (with_reducible first|exact HB.out|apply bA|apply bN|apply bD|refine bS ?_ GE327.out|refine bS ?_ GE338.out|refine bS ?_ GE346.out)|exact HB.out))); (case side8 => exact HC0_3.out); rintro e w37 ⟨rfl, hb⟩; refine ⟨_, rfl, ?_⟩; have n0_ := aM (Kd.R_below (by (with_reducible repeat (first|apply rA|apply rN|apply rD)); exact (Kd.R_mono (Kd.R_far (p := ⟨gb346, 1, none⟩) (Kd.R_far (p := ⟨gb346, 0, none⟩) (Kd.R_types HO333.out BK346.out (by decide)) (fun _ hk => hk.2) (.slice Ao31 t339.length co31)) (fun _ hk => hk.2) (.slice Ao35 t342.length co35)) (fun _ h_ => h_.1))) hb); have n1_ := aM (Kd.R_below (by (with_reducible repeat (first|apply rA|apply rN|apply rD)); exact (Kd.R_mono (Kd.R_far (p := ⟨gb346, 1, none⟩) (Kd.R_far (p := ⟨gb346, 0, none⟩) (Kd.R_types HO336.out BK346.out (by decide)) (fun _ hk => hk.2) (.slice Ao31 t339.length co31)) (fun _ hk => hk.2) (.slice Ao35 t342.length co35)) (fun _ h_ => h_.1))) hb); have n2_ := aM (Kd.R_below (by (with_reducible repeat (first|apply rA|apply rN|apply rD)); exact (Kd.R_mono (Kd.R_far (p := ⟨gb346, 1, none⟩) (Kd.R_far (p := ⟨gb346, 0, none⟩) (Kd.R_types HO341.out BK346.out (by decide)) (fun _ hk => hk.2) (.slice Ao31 t339.length co31)) (fun _ hk => hk.2) (.slice Ao35 t342.length co35)) (fun _ h_ => h_.1))) hb); have n3_ := aM (Kd.R_below (by (with_reducible repeat (first|apply rA|apply rN|apply rD)); exact (Kd.R_mono (Kd.R_far (p := ⟨gb346, 1, none⟩) (Kd.R_far (p := ⟨gb346, 0, none⟩) (Kd.R_types HO344.out BK346.out (by decide)) (fun _ hk => hk.2) (.slice Ao31 t339.length co31)) (fun _ hk => hk.2) (.slice Ao35 t342.length co35)) (fun _ h_ => h_.1))) hb); have n4_ := aM (blk_below (g := gb327) (o := .cells #[.slice A0_0 l0_0.length c0_0, .slice A0_1 l0_1.length c0_1, .slice A0_2 l0_2.length c0_2, .slice A0_3 l0_3.length c0_3, .int .i64 a0_4, .int .i64 a0_5, .int .i64 a0_6] 47 (0, 0)) (by (with_reducible repeat (first|apply kN|apply kD|apply kA)); refine blk_far ?_ NB327_346.out _; (with_reducible repeat (first|apply kN|apply kD|apply kA)); refine blk_far ?_ NB327_346.out _; (with_reducible repeat (first|apply kN|apply kD|apply kA)); exact BK327.out) hb); have n5_ := aM (blk_below (g := gb338) (o := .cells #[.slice Ao24 t331.length co24, .slice Ao27 t334.length co27] 26 (0, 0)) (by (with_reducible repeat (first|apply kN|apply kD|apply kA)); refine blk_far ?_ NB338_346.out _; (with_reducible repeat (first|apply kN|apply kD|apply kA)); refine blk_far ?_ NB338_346.out _; (with_reducible repeat (first|apply kN|apply kD|apply kA)); exact BK338.out) hb); have n6_ := aM (blk_below (g := gb346) (o := .cells #[.slice Ao31 t339.length co31, .slice Ao35 t342.length co35] 26 (0, 0)) (by (with_reducible repeat (first|apply kN|apply kD|apply kA)); refine blk_put (cs := #[.slice Ao31 t339.length co31, .slice none 0 0]) ?_ 1 _ rfl; (with_reducible repeat (first|apply kN|apply kD|apply kA)); refine blk_put (cs := #[.slice none 0 0, .slice none 0 0]) ?_ 0 _ rfl; (with_reducible repeat (first|apply kN|apply kD|apply kA)); exact BK346.out) hb); have n7_ := aM (below_step (by repeat (first | (with_reducible first|exact HB.out|apply bA|apply bN|apply bD|refine bS ?_ GE327.out|refine bS ?_ GE338.out|refine bS ?_ GE346.out)|exact HB.out)) hb); clear HO333; clear HO336; clear HO341; clear HO344; clear BK327; clear BK338; clear BK346; clear HB; have HO333 := n0_; have HO336 := n1_; have HO341 := n2_; have HO344 := n3_; have BK327 := n4_; have BK338 := n5_; have BK346 := n6_; have HB := n7_; clear n0_ n1_ n2_ n3_ n4_ n5_ n6_ n7_; (try clear hb); (try clear hk)))
    (try simp only [Act.put, List.setIfInBounds_toArray, List.set_cons_zero, List.set_cons_succ])
    go_cut [67] (fun v67 wc => ∃ (kq : Nat) (x67_19 : Bool), v67 = .bool x67_19 ∧ Aside0 (athanorlaw04_TensorSums.j1 kq a1 t337 t347 t348 x67_19 l0_0 l0_1 l0_2 l0_3 a0_4 a0_5 a0_6 t331 t334 t339 t342 = some r) ∧ Aside0 (kq ≤ kj2) ∧ Aside0 (Kd.R (Kd.int .i64) 3 wc w.heap.size (fun k_ => some k_ ≠ ((.slice Ao31 t339.length co31) : Value).ownBlock) (.slice Ao24 t331.length co24) t331) ∧ Aside0 (Kd.R (Kd.int .i64) 27 wc w.heap.size (fun k_ => some k_ ≠ ((.slice Ao35 t342.length co35) : Value).ownBlock) (.slice Ao27 t334.length co27) t334) ∧ Aside0 (Kd.R (Kd.int .i64) 3 wc w.heap.size (fun k_ => some k_ ≠ ((.slice Ao24 t331.length co24) : Value).ownBlock) (.slice Ao31 t339.length co31) t339) ∧ Aside0 (Kd.R (Kd.int .i64) 27 wc w.heap.size (fun k_ => some k_ ≠ ((.slice Ao27 t334.length co27) : Value).ownBlock) (.slice Ao35 t342.length co35) t342) ∧ Aside0 (wc.heap[gb327]? = some (.cells #[(.slice A0_0 l0_0.length c0_0), (.slice A0_1 l0_1.length c0_1), (.slice A0_2 l0_2.length c0_2), (.slice A0_3 l0_3.length c0_3), .int .i64 a0_4, .int .i64 a0_5, .int .i64 a0_6] 47 (0, 0))) ∧ Aside0 (wc.heap[gb338]? = some (.cells #[(.slice Ao24 t331.length co24), (.slice Ao27 t334.length co27)] 26 (0, 0))) ∧ Aside0 (wc.heap[gb346]? = some (.cells #[(.slice Ao31 t339.length co31), (.slice Ao35 t342.length co35)] 26 (0, 0))) ∧ Aside0 (Below w.heap.size w wc))
    case first =>
     have H := HC20.out
     clear HC20
     replace H := Option.bind_eq_some_iff.mp H
     obtain ⟨t349, A380, H⟩ := H
     replace H : (if (t349 != (t345 == 0)) = true then (athanorlaw04_TensorSums.j1 kj2 a1 t337 t347 t348 true l0_0 l0_1 l0_2 l0_3 a0_4 a0_5 a0_6 t331 t334 t339 t342) else (if t345 = 0 then (athanorlaw04_TensorSums.j1 kj2 a1 t337 t347 t348 false l0_0 l0_1 l0_2 l0_3 a0_4 a0_5 a0_6 t331 t334 t339 t342) else (if t345 = 20 then (athanorlaw04_TensorSums.j1 kj2 a1 t337 t347 t348 ((t342.length : Int) != 0) l0_0 l0_1 l0_2 l0_3 a0_4 a0_5 a0_6 t331 t334 t339 t342) else (athanorlaw04_TensorSums.j1 kj2 a1 t337 t347 t348 true l0_0 l0_1 l0_2 l0_3 a0_4 a0_5 a0_6 t331 t334 t339 t342)))) = some r := H
     have A38 := Aside0.mk A380
     clear A380
     by_cases c39 : (t349 != (t345 == 0)) = true
     ·rw [if_pos c39] at H
      have c39b0 : (t349 != (t345 == 0)) = true := c39
      (try (have c39b1 : decide (t349 = (t345 == 0)) = false := by simpa using c39))
      (try (have c39b2 : (t349 == (t345 == 0)) = false := by simpa using c39))
      (try (have c39b3 : ¬ (t349 = (t345 == 0)) := by simpa using c39))
      clear c39
      (first | rw [c39b0] | (simp only [i64_w, i32_w]; rw [c39b0]) | skip)
      as_aux_lemma =>
       have H' := Aside0.mk H
       clear H
       have hnb40 := NB327_338.out
       have hnc40 := NB338_327.out
       have hnb41 := NB327_346.out
       have hnc41 := NB346_327.out
       have hcz42_0 : w37.cell? ⟨gb327, 0, none⟩ = some (.slice A0_0 l0_0.length c0_0) := (blk_cell BK327.out 0).trans rfl
       have hcz42_1 : w37.cell? ⟨gb327, 1, none⟩ = some (.slice A0_1 l0_1.length c0_1) := (blk_cell BK327.out 1).trans rfl
       have hcz42_2 : w37.cell? ⟨gb327, 2, none⟩ = some (.slice A0_2 l0_2.length c0_2) := (blk_cell BK327.out 2).trans rfl
       have hcz42_3 : w37.cell? ⟨gb327, 3, none⟩ = some (.slice A0_3 l0_3.length c0_3) := (blk_cell BK327.out 3).trans rfl
       have hcz42_4 : w37.cell? ⟨gb327, 4, none⟩ = some (.int .i64 a0_4) := (blk_cell BK327.out 4).trans rfl
       have hcz42_5 : w37.cell? ⟨gb327, 5, none⟩ = some (.int .i64 a0_5) := (blk_cell BK327.out 5).trans rfl
       have hcz42_6 : w37.cell? ⟨gb327, 6, none⟩ = some (.int .i64 a0_6) := (blk_cell BK327.out 6).trans rfl
       have hfz42_0 := blk_frozen BK327.out 0
       have hfz42_1 := blk_frozen BK327.out 1
       have hfz42_2 := blk_frozen BK327.out 2
       have hfz42_3 := blk_frozen BK327.out 3
       have hfz42_4 := blk_frozen BK327.out 4
       have hfz42_5 := blk_frozen BK327.out 5
       have hfz42_6 := blk_frozen BK327.out 6
       iterate 7 (first | go_quiet (first | ((with_reducible refine gate_callee (f := 14) rfl ?_); refine goesL_ (some 50) rfl rfl Try.func14 (by kernel_rfl) rfl #[.agg #[.slice A0_0 l0_0.length c0_0, .slice A0_1 l0_1.length c0_1]] rfl (by (try simp only [List.map_toArray, List.map_cons, List.map_nil]); first | done | rfl | (simp only [List.length_drop, List.length_take]; rfl)) ?_; (with_reducible refine (athanorlaw04_right.calls kj2 _ _ l0_0 _ _ l0_1 t349 _ ?side1 ?side2 ?side3 ?side4 A38.out).mono ?_); (case side1 => repeat (first|exact (Kd.C_below HR0_0.out HB.out) | with_reducible first|apply cA|apply cN|apply cD)); (case side2 => exact HC0_0.out); (case side3 => repeat (first|exact (Kd.C_below HR0_1.out HB.out) | with_reducible first|apply cA|apply cN|apply cD)); (case side4 => exact HC0_1.out); rintro e w43 ⟨rfl, hb⟩; refine ⟨_, rfl, ?_⟩; have n0_ := aM (Kd.R_below (by (with_reducible repeat (first|apply rA|apply rN|apply rD)); exact HO333.out) hb); have n1_ := aM (Kd.R_below (by (with_reducible repeat (first|apply rA|apply rN|apply rD)); exact HO336.out) hb); have n2_ := aM (Kd.R_below (by (with_reducible repeat (first|apply rA|apply rN|apply rD)); exact HO341.out) hb); have n3_ := aM (Kd.R_below (by (with_reducible repeat (first|apply rA|apply rN|apply rD)); exact HO344.out) hb); have n4_ := aM (blk_below (g := gb327) (o := .cells #[.slice A0_0 l0_0.length c0_0, .slice A0_1 l0_1.length c0_1, .slice A0_2 l0_2.length c0_2, .slice A0_3 l0_3.length c0_3, .int .i64 a0_4, .int .i64 a0_5, .int .i64 a0_6] 47 (0, 0)) (by (with_reducible repeat (first|apply kN|apply kD|apply kA)); exact BK327.out) hb); have n5_ := aM (blk_below (g := gb338) (o := .cells #[.slice Ao24 t331.length co24, .slice Ao27 t334.length co27] 26 (0, 0)) (by (with_reducible repeat (first|apply kN|apply kD|apply kA)); exact BK338.out) hb); have n6_ := aM (blk_below (g := gb346) (o := .cells #[.slice Ao31 t339.length co31, .slice Ao35 t342.length co35] 26 (0, 0)) (by (with_reducible repeat (first|apply kN|apply kD|apply kA)); exact BK346.out) hb); have n7_ := aM (below_step (by repeat (first | (with_reducible first|exact HB.out|apply bA|apply bN|apply bD|refine bS ?_ GE327.out|refine bS ?_ GE338.out|refine bS ?_ GE346.out)|exact HB.out)) hb); clear HO333; clear HO336; clear HO341; clear HO344; clear BK327; clear BK338; clear BK346; clear HB; have HO333 := n0_; have HO336 := n1_; have HO341 := n2_; have HO344 := n3_; have BK327 := n4_; have BK338 := n5_; have BK346 := n6_; have HB := n7_; clear n0_ n1_ n2_ n3_ n4_ n5_ n6_ n7_; (try clear hb))) | try go_wp2_with (first | ((with_reducible refine gate_callee (f := 14) rfl ?_); refine goesL_ (some 50) rfl rfl Try.func14 (by kernel_rfl) rfl #[.agg #[.slice A0_0 l0_0.length c0_0, .slice A0_1 l0_1.length c0_1]] rfl (by (try simp only [List.map_toArray, List.map_cons, List.map_nil]); first | done | rfl | (simp only [List.length_drop, List.length_take]; rfl)) ?_; (with_reducible refine (athanorlaw04_right.calls kj2 _ _ l0_0 _ _ l0_1 t349 _ ?side1 ?side2 ?side3 ?side4 A38.out).mono ?_); (case side1 => repeat (first|exact (Kd.C_below HR0_0.out HB.out) | with_reducible first|apply cA|apply cN|apply cD)); (case side2 => exact HC0_0.out); (case side3 => repeat (first|exact (Kd.C_below HR0_1.out HB.out) | with_reducible first|apply cA|apply cN|apply cD)); (case side4 => exact HC0_1.out); rintro e w43 ⟨rfl, hb⟩; refine ⟨_, rfl, ?_⟩; have n0_ := aM (Kd.R_below (by (with_reducible repeat (first|apply rA|apply rN|apply rD)); exact HO333.out) hb); have n1_ := aM (Kd.R_below (by (with_reducible repeat (first|apply rA|apply rN|apply rD)); exact HO336.out) hb); have n2_ := aM (Kd.R_below (by (with_reducible repeat (first|apply rA|apply rN|apply rD)); exact HO341.out) hb); have n3_ := aM (Kd.R_below (by (with_reducible repeat (first|apply rA|apply rN|apply rD)); exact HO344.out) hb); have n4_ := aM (blk_below (g := gb327) (o := .cells #[.slice A0_0 l0_0.length c0_0, .slice A0_1 l0_1.length c0_1, .slice A0_2 l0_2.length c0_2, .slice A0_3 l0_3.length c0_3, .int .i64 a0_4, .int .i64 a0_5, .int .i64 a0_6] 47 (0, 0)) (by (with_reducible repeat (first|apply kN|apply kD|apply kA)); exact BK327.out) hb); have n5_ := aM (blk_below (g := gb338) (o := .cells #[.slice Ao24 t331.length co24, .slice Ao27 t334.length co27] 26 (0, 0)) (by (with_reducible repeat (first|apply kN|apply kD|apply kA)); exact BK338.out) hb); have n6_ := aM (blk_below (g := gb346) (o := .cells #[.slice Ao31 t339.length co31, .slice Ao35 t342.length co35] 26 (0, 0)) (by (with_reducible repeat (first|apply kN|apply kD|apply kA)); exact BK346.out) hb); have n7_ := aM (below_step (by repeat (first | (with_reducible first|exact HB.out|apply bA|apply bN|apply bD|refine bS ?_ GE327.out|refine bS ?_ GE338.out|refine bS ?_ GE346.out)|exact HB.out)) hb); clear HO333; clear HO336; clear HO341; clear HO344; clear BK327; clear BK338; clear BK346; clear HB; have HO333 := n0_; have HO336 := n1_; have HO341 := n2_; have HO344 := n3_; have BK327 := n4_; have BK338 := n5_; have BK346 := n6_; have HB := n7_; clear n0_ n1_ n2_ n3_ n4_ n5_ n6_ n7_; (try clear hb))))
       go_meet
       case rel => exact ⟨_, (true), (by first | rfl | (simp; done) | (simp [*]; done)), H', ⟨by have := HJ2.out; first | omega|exact Nat.le_refl _⟩, ⟨by (with_reducible repeat (first|apply rA|apply rN|apply rD)); exact Kd.R_mono HO333.out (fun _ hk => hk.2)⟩, ⟨by (with_reducible repeat (first|apply rA|apply rN|apply rD)); exact Kd.R_mono HO336.out (fun _ hk => hk.2)⟩, ⟨by (with_reducible repeat (first|apply rA|apply rN|apply rD)); exact Kd.R_mono HO341.out (fun _ hk => hk.2)⟩, ⟨by (with_reducible repeat (first|apply rA|apply rN|apply rD)); exact Kd.R_mono HO344.out (fun _ hk => hk.2)⟩, ⟨by (with_reducible repeat (first|apply kN|apply kD|apply kA)); exact BK327.out⟩, ⟨by (with_reducible repeat (first|apply kN|apply kD|apply kA)); exact BK338.out⟩, ⟨by (with_reducible repeat (first|apply kN|apply kD|apply kA)); exact BK346.out⟩, ⟨by repeat (first | (with_reducible first|exact HB.out|apply bA|apply bN|apply bD|refine bS ?_ GE327.out|refine bS ?_ GE338.out|refine bS ?_ GE346.out)|exact HB.out)⟩⟩
     ·rw [if_neg c39] at H
      have c39b0 : (t349 != (t345 == 0)) = false := by simpa using c39
      (try (have c39b1 : decide (t349 = (t345 == 0)) = true := by simpa using c39))
      (try (have c39b2 : (t349 == (t345 == 0)) = true := by simpa using c39))
      clear c39
      (first | rw [c39b0] | (simp only [i64_w, i32_w]; rw [c39b0]) | skip)
      by_cases c44 : t345 = 0
      ·rw [if_pos c44] at H
       have c44b0 : (t345 == 0) = true := beq_iff_eq.mpr c44
       (try (have cX_ : t349 = true := (by decide : ∀ q_ t_ : Bool, (t_ != q_) = false → q_ = true → t_ = true) _ _ c39b0 c44b0))
       have c44b1 : (t345 != 0) = false := bne_eq_false_iff_eq.mpr c44
       clear c44
       as_aux_lemma =>
        have H' := Aside0.mk H
        clear H
        have hnb45 := NB327_338.out
        have hnc45 := NB338_327.out
        have hnb46 := NB327_346.out
        have hnc46 := NB346_327.out
        have hcz47_0 : w37.cell? ⟨gb327, 0, none⟩ = some (.slice A0_0 l0_0.length c0_0) := (blk_cell BK327.out 0).trans rfl
        have hcz47_1 : w37.cell? ⟨gb327, 1, none⟩ = some (.slice A0_1 l0_1.length c0_1) := (blk_cell BK327.out 1).trans rfl
        have hcz47_2 : w37.cell? ⟨gb327, 2, none⟩ = some (.slice A0_2 l0_2.length c0_2) := (blk_cell BK327.out 2).trans rfl
        have hcz47_3 : w37.cell? ⟨gb327, 3, none⟩ = some (.slice A0_3 l0_3.length c0_3) := (blk_cell BK327.out 3).trans rfl
        have hcz47_4 : w37.cell? ⟨gb327, 4, none⟩ = some (.int .i64 a0_4) := (blk_cell BK327.out 4).trans rfl
        have hcz47_5 : w37.cell? ⟨gb327, 5, none⟩ = some (.int .i64 a0_5) := (blk_cell BK327.out 5).trans rfl
        have hcz47_6 : w37.cell? ⟨gb327, 6, none⟩ = some (.int .i64 a0_6) := (blk_cell BK327.out 6).trans rfl
        have hfz47_0 := blk_frozen BK327.out 0
        have hfz47_1 := blk_frozen BK327.out 1
        have hfz47_2 := blk_frozen BK327.out 2
        have hfz47_3 := blk_frozen BK327.out 3
        have hfz47_4 := blk_frozen BK327.out 4
        have hfz47_5 := blk_frozen BK327.out 5
        have hfz47_6 := blk_frozen BK327.out 6
        iterate 7 (first | go_quiet (first | ((with_reducible refine gate_callee (f := 14) rfl ?_); refine goesL_ (some 50) rfl rfl Try.func14 (by kernel_rfl) rfl #[.agg #[.slice A0_0 l0_0.length c0_0, .slice A0_1 l0_1.length c0_1]] rfl (by (try simp only [List.map_toArray, List.map_cons, List.map_nil]); first | done | rfl | (simp only [List.length_drop, List.length_take]; rfl)) ?_; (with_reducible refine (athanorlaw04_right.calls kj2 _ _ l0_0 _ _ l0_1 t349 _ ?side1 ?side2 ?side3 ?side4 A38.out).mono ?_); (case side1 => repeat (first|exact (Kd.C_below HR0_0.out HB.out) | with_reducible first|apply cA|apply cN|apply cD)); (case side2 => exact HC0_0.out); (case side3 => repeat (first|exact (Kd.C_below HR0_1.out HB.out) | with_reducible first|apply cA|apply cN|apply cD)); (case side4 => exact HC0_1.out); rintro e w48 ⟨rfl, hb⟩; refine ⟨_, rfl, ?_⟩; have n0_ := aM (Kd.R_below (by (with_reducible repeat (first|apply rA|apply rN|apply rD)); exact HO333.out) hb); have n1_ := aM (Kd.R_below (by (with_reducible repeat (first|apply rA|apply rN|apply rD)); exact HO336.out) hb); have n2_ := aM (Kd.R_below (by (with_reducible repeat (first|apply rA|apply rN|apply rD)); exact HO341.out) hb); have n3_ := aM (Kd.R_below (by (with_reducible repeat (first|apply rA|apply rN|apply rD)); exact HO344.out) hb); have n4_ := aM (blk_below (g := gb327) (o := .cells #[.slice A0_0 l0_0.length c0_0, .slice A0_1 l0_1.length c0_1, .slice A0_2 l0_2.length c0_2, .slice A0_3 l0_3.length c0_3, .int .i64 a0_4, .int .i64 a0_5, .int .i64 a0_6] 47 (0, 0)) (by (with_reducible repeat (first|apply kN|apply kD|apply kA)); exact BK327.out) hb); have n5_ := aM (blk_below (g := gb338) (o := .cells #[.slice Ao24 t331.length co24, .slice Ao27 t334.length co27] 26 (0, 0)) (by (with_reducible repeat (first|apply kN|apply kD|apply kA)); exact BK338.out) hb); have n6_ := aM (blk_below (g := gb346) (o := .cells #[.slice Ao31 t339.length co31, .slice Ao35 t342.length co35] 26 (0, 0)) (by (with_reducible repeat (first|apply kN|apply kD|apply kA)); exact BK346.out) hb); have n7_ := aM (below_step (by repeat (first | (with_reducible first|exact HB.out|apply bA|apply bN|apply bD|refine bS ?_ GE327.out|refine bS ?_ GE338.out|refine bS ?_ GE346.out)|exact HB.out)) hb); clear HO333; clear HO336; clear HO341; clear HO344; clear BK327; clear BK338; clear BK346; clear HB; have HO333 := n0_; have HO336 := n1_; have HO341 := n2_; have HO344 := n3_; have BK327 := n4_; have BK338 := n5_; have BK346 := n6_; have HB := n7_; clear n0_ n1_ n2_ n3_ n4_ n5_ n6_ n7_; (try clear hb))) | try go_wp2_with (first | ((with_reducible refine gate_callee (f := 14) rfl ?_); refine goesL_ (some 50) rfl rfl Try.func14 (by kernel_rfl) rfl #[.agg #[.slice A0_0 l0_0.length c0_0, .slice A0_1 l0_1.length c0_1]] rfl (by (try simp only [List.map_toArray, List.map_cons, List.map_nil]); first | done | rfl | (simp only [List.length_drop, List.length_take]; rfl)) ?_; (with_reducible refine (athanorlaw04_right.calls kj2 _ _ l0_0 _ _ l0_1 t349 _ ?side1 ?side2 ?side3 ?side4 A38.out).mono ?_); (case side1 => repeat (first|exact (Kd.C_below HR0_0.out HB.out) | with_reducible first|apply cA|apply cN|apply cD)); (case side2 => exact HC0_0.out); (case side3 => repeat (first|exact (Kd.C_below HR0_1.out HB.out) | with_reducible first|apply cA|apply cN|apply cD)); (case side4 => exact HC0_1.out); rintro e w48 ⟨rfl, hb⟩; refine ⟨_, rfl, ?_⟩; have n0_ := aM (Kd.R_below (by (with_reducible repeat (first|apply rA|apply rN|apply rD)); exact HO333.out) hb); have n1_ := aM (Kd.R_below (by (with_reducible repeat (first|apply rA|apply rN|apply rD)); exact HO336.out) hb); have n2_ := aM (Kd.R_below (by (with_reducible repeat (first|apply rA|apply rN|apply rD)); exact HO341.out) hb); have n3_ := aM (Kd.R_below (by (with_reducible repeat (first|apply rA|apply rN|apply rD)); exact HO344.out) hb); have n4_ := aM (blk_below (g := gb327) (o := .cells #[.slice A0_0 l0_0.length c0_0, .slice A0_1 l0_1.length c0_1, .slice A0_2 l0_2.length c0_2, .slice A0_3 l0_3.length c0_3, .int .i64 a0_4, .int .i64 a0_5, .int .i64 a0_6] 47 (0, 0)) (by (with_reducible repeat (first|apply kN|apply kD|apply kA)); exact BK327.out) hb); have n5_ := aM (blk_below (g := gb338) (o := .cells #[.slice Ao24 t331.length co24, .slice Ao27 t334.length co27] 26 (0, 0)) (by (with_reducible repeat (first|apply kN|apply kD|apply kA)); exact BK338.out) hb); have n6_ := aM (blk_below (g := gb346) (o := .cells #[.slice Ao31 t339.length co31, .slice Ao35 t342.length co35] 26 (0, 0)) (by (with_reducible repeat (first|apply kN|apply kD|apply kA)); exact BK346.out) hb); have n7_ := aM (below_step (by repeat (first | (with_reducible first|exact HB.out|apply bA|apply bN|apply bD|refine bS ?_ GE327.out|refine bS ?_ GE338.out|refine bS ?_ GE346.out)|exact HB.out)) hb); clear HO333; clear HO336; clear HO341; clear HO344; clear BK327; clear BK338; clear BK346; clear HB; have HO333 := n0_; have HO336 := n1_; have HO341 := n2_; have HO344 := n3_; have BK327 := n4_; have BK338 := n5_; have BK346 := n6_; have HB := n7_; clear n0_ n1_ n2_ n3_ n4_ n5_ n6_ n7_; (try clear hb))))
        go_meet
        case rel => exact ⟨_, (false), (by first | rfl | (simp; done) | (simp [*]; done)), H', ⟨by have := HJ2.out; first | omega|exact Nat.le_refl _⟩, ⟨by (with_reducible repeat (first|apply rA|apply rN|apply rD)); exact Kd.R_mono HO333.out (fun _ hk => hk.2)⟩, ⟨by (with_reducible repeat (first|apply rA|apply rN|apply rD)); exact Kd.R_mono HO336.out (fun _ hk => hk.2)⟩, ⟨by (with_reducible repeat (first|apply rA|apply rN|apply rD)); exact Kd.R_mono HO341.out (fun _ hk => hk.2)⟩, ⟨by (with_reducible repeat (first|apply rA|apply rN|apply rD)); exact Kd.R_mono HO344.out (fun _ hk => hk.2)⟩, ⟨by (with_reducible repeat (first|apply kN|apply kD|apply kA)); exact BK327.out⟩, ⟨by (with_reducible repeat (first|apply kN|apply kD|apply kA)); exact BK338.out⟩, ⟨by (with_reducible repeat (first|apply kN|apply kD|apply kA)); exact BK346.out⟩, ⟨by repeat (first | (with_reducible first|exact HB.out|apply bA|apply bN|apply bD|refine bS ?_ GE327.out|refine bS ?_ GE338.out|refine bS ?_ GE346.out)|exact HB.out)⟩⟩
      ·rw [if_neg c44] at H
       have c44b0 : (t345 == 0) = false := beq_eq_false_iff_ne.mpr c44
       (try (have cX_ : t349 = false := (by decide : ∀ q_ t_ : Bool, (t_ != q_) = false → q_ = false → t_ = false) _ _ c39b0 c44b0))
       have c44b1 : (t345 != 0) = true := bne_iff_ne.mpr c44
       by_cases c49 : t345 = 20
       ·rw [if_pos c49] at H
        have c49b0 : (t345 == 20) = true := beq_iff_eq.mpr c49
        have c49b1 : (t345 != 20) = false := bne_eq_false_iff_eq.mpr c49
        clear c49
        as_aux_lemma =>
         have H' := Aside0.mk H
         clear H
         have hnb50 := NB327_338.out
         have hnc50 := NB338_327.out
         have hnb51 := NB327_346.out
         have hnc51 := NB346_327.out
         have hcz52_0 : w37.cell? ⟨gb327, 0, none⟩ = some (.slice A0_0 l0_0.length c0_0) := (blk_cell BK327.out 0).trans rfl
         have hcz52_1 : w37.cell? ⟨gb327, 1, none⟩ = some (.slice A0_1 l0_1.length c0_1) := (blk_cell BK327.out 1).trans rfl
         have hcz52_2 : w37.cell? ⟨gb327, 2, none⟩ = some (.slice A0_2 l0_2.length c0_2) := (blk_cell BK327.out 2).trans rfl
         have hcz52_3 : w37.cell? ⟨gb327, 3, none⟩ = some (.slice A0_3 l0_3.length c0_3) := (blk_cell BK327.out 3).trans rfl
         have hcz52_4 : w37.cell? ⟨gb327, 4, none⟩ = some (.int .i64 a0_4) := (blk_cell BK327.out 4).trans rfl
         have hcz52_5 : w37.cell? ⟨gb327, 5, none⟩ = some (.int .i64 a0_5) := (blk_cell BK327.out 5).trans rfl
         have hcz52_6 : w37.cell? ⟨gb327, 6, none⟩ = some (.int .i64 a0_6) := (blk_cell BK327.out 6).trans rfl
         have hfz52_0 := blk_frozen BK327.out 0
         have hfz52_1 := blk_frozen BK327.out 1
         have hfz52_2 := blk_frozen BK327.out 2
         have hfz52_3 := blk_frozen BK327.out 3
         have hfz52_4 := blk_frozen BK327.out 4
         have hfz52_5 := blk_frozen BK327.out 5
         have hfz52_6 := blk_frozen BK327.out 6
         iterate 7 (first | go_quiet (first | ((with_reducible refine gate_callee (f := 14) rfl ?_); refine goesL_ (some 50) rfl rfl Try.func14 (by kernel_rfl) rfl #[.agg #[.slice A0_0 l0_0.length c0_0, .slice A0_1 l0_1.length c0_1]] rfl (by (try simp only [List.map_toArray, List.map_cons, List.map_nil]); first | done | rfl | (simp only [List.length_drop, List.length_take]; rfl)) ?_; (with_reducible refine (athanorlaw04_right.calls kj2 _ _ l0_0 _ _ l0_1 t349 _ ?side1 ?side2 ?side3 ?side4 A38.out).mono ?_); (case side1 => repeat (first|exact (Kd.C_below HR0_0.out HB.out) | with_reducible first|apply cA|apply cN|apply cD)); (case side2 => exact HC0_0.out); (case side3 => repeat (first|exact (Kd.C_below HR0_1.out HB.out) | with_reducible first|apply cA|apply cN|apply cD)); (case side4 => exact HC0_1.out); rintro e w53 ⟨rfl, hb⟩; refine ⟨_, rfl, ?_⟩; have n0_ := aM (Kd.R_below (by (with_reducible repeat (first|apply rA|apply rN|apply rD)); exact HO333.out) hb); have n1_ := aM (Kd.R_below (by (with_reducible repeat (first|apply rA|apply rN|apply rD)); exact HO336.out) hb); have n2_ := aM (Kd.R_below (by (with_reducible repeat (first|apply rA|apply rN|apply rD)); exact HO341.out) hb); have n3_ := aM (Kd.R_below (by (with_reducible repeat (first|apply rA|apply rN|apply rD)); exact HO344.out) hb); have n4_ := aM (blk_below (g := gb327) (o := .cells #[.slice A0_0 l0_0.length c0_0, .slice A0_1 l0_1.length c0_1, .slice A0_2 l0_2.length c0_2, .slice A0_3 l0_3.length c0_3, .int .i64 a0_4, .int .i64 a0_5, .int .i64 a0_6] 47 (0, 0)) (by (with_reducible repeat (first|apply kN|apply kD|apply kA)); exact BK327.out) hb); have n5_ := aM (blk_below (g := gb338) (o := .cells #[.slice Ao24 t331.length co24, .slice Ao27 t334.length co27] 26 (0, 0)) (by (with_reducible repeat (first|apply kN|apply kD|apply kA)); exact BK338.out) hb); have n6_ := aM (blk_below (g := gb346) (o := .cells #[.slice Ao31 t339.length co31, .slice Ao35 t342.length co35] 26 (0, 0)) (by (with_reducible repeat (first|apply kN|apply kD|apply kA)); exact BK346.out) hb); have n7_ := aM (below_step (by repeat (first | (with_reducible first|exact HB.out|apply bA|apply bN|apply bD|refine bS ?_ GE327.out|refine bS ?_ GE338.out|refine bS ?_ GE346.out)|exact HB.out)) hb); clear HO333; clear HO336; clear HO341; clear HO344; clear BK327; clear BK338; clear BK346; clear HB; have HO333 := n0_; have HO336 := n1_; have HO341 := n2_; have HO344 := n3_; have BK327 := n4_; have BK338 := n5_; have BK346 := n6_; have HB := n7_; clear n0_ n1_ n2_ n3_ n4_ n5_ n6_ n7_; (try clear hb); have hnb54 := NB346_338.out; have hnc54 := NB338_346.out; have hcz55_0 : w53.cell? ⟨gb346, 0, none⟩ = some (.slice Ao31 t339.length co31) := (blk_cell BK346.out 0).trans rfl; have hcz55_1 : w53.cell? ⟨gb346, 1, none⟩ = some (.slice Ao35 t342.length co35) := (blk_cell BK346.out 1).trans rfl; have hfz55_0 := blk_frozen BK346.out 0; have hfz55_1 := blk_frozen BK346.out 1)) | try go_wp2_with (first | ((with_reducible refine gate_callee (f := 14) rfl ?_); refine goesL_ (some 50) rfl rfl Try.func14 (by kernel_rfl) rfl #[.agg #[.slice A0_0 l0_0.length c0_0, .slice A0_1 l0_1.length c0_1]] rfl (by (try simp only [List.map_toArray, List.map_cons, List.map_nil]); first | done | rfl | (simp only [List.length_drop, List.length_take]; rfl)) ?_; (with_reducible refine (athanorlaw04_right.calls kj2 _ _ l0_0 _ _ l0_1 t349 _ ?side1 ?side2 ?side3 ?side4 A38.out).mono ?_); (case side1 => repeat (first|exact (Kd.C_below HR0_0.out HB.out) | with_reducible first|apply cA|apply cN|apply cD)); (case side2 => exact HC0_0.out); (case side3 => repeat (first|exact (Kd.C_below HR0_1.out HB.out) | with_reducible first|apply cA|apply cN|apply cD)); (case side4 => exact HC0_1.out); rintro e w53 ⟨rfl, hb⟩; refine ⟨_, rfl, ?_⟩; have n0_ := aM (Kd.R_below (by (with_reducible repeat (first|apply rA|apply rN|apply rD)); exact HO333.out) hb); have n1_ := aM (Kd.R_below (by (with_reducible repeat (first|apply rA|apply rN|apply rD)); exact HO336.out) hb); have n2_ := aM (Kd.R_below (by (with_reducible repeat (first|apply rA|apply rN|apply rD)); exact HO341.out) hb); have n3_ := aM (Kd.R_below (by (with_reducible repeat (first|apply rA|apply rN|apply rD)); exact HO344.out) hb); have n4_ := aM (blk_below (g := gb327) (o := .cells #[.slice A0_0 l0_0.length c0_0, .slice A0_1 l0_1.length c0_1, .slice A0_2 l0_2.length c0_2, .slice A0_3 l0_3.length c0_3, .int .i64 a0_4, .int .i64 a0_5, .int .i64 a0_6] 47 (0, 0)) (by (with_reducible repeat (first|apply kN|apply kD|apply kA)); exact BK327.out) hb); have n5_ := aM (blk_below (g := gb338) (o := .cells #[.slice Ao24 t331.length co24, .slice Ao27 t334.length co27] 26 (0, 0)) (by (with_reducible repeat (first|apply kN|apply kD|apply kA)); exact BK338.out) hb); have n6_ := aM (blk_below (g := gb346) (o := .cells #[.slice Ao31 t339.length co31, .slice Ao35 t342.length co35] 26 (0, 0)) (by (with_reducible repeat (first|apply kN|apply kD|apply kA)); exact BK346.out) hb); have n7_ := aM (below_step (by repeat (first | (with_reducible first|exact HB.out|apply bA|apply bN|apply bD|refine bS ?_ GE327.out|refine bS ?_ GE338.out|refine bS ?_ GE346.out)|exact HB.out)) hb); clear HO333; clear HO336; clear HO341; clear HO344; clear BK327; clear BK338; clear BK346; clear HB; have HO333 := n0_; have HO336 := n1_; have HO341 := n2_; have HO344 := n3_; have BK327 := n4_; have BK338 := n5_; have BK346 := n6_; have HB := n7_; clear n0_ n1_ n2_ n3_ n4_ n5_ n6_ n7_; (try clear hb); have hnb54 := NB346_338.out; have hnc54 := NB338_346.out; have hcz55_0 : w53.cell? ⟨gb346, 0, none⟩ = some (.slice Ao31 t339.length co31) := (blk_cell BK346.out 0).trans rfl; have hcz55_1 : w53.cell? ⟨gb346, 1, none⟩ = some (.slice Ao35 t342.length co35) := (blk_cell BK346.out 1).trans rfl; have hfz55_0 := blk_frozen BK346.out 0; have hfz55_1 := blk_frozen BK346.out 1)))
         go_meet
         case rel => exact ⟨_, (((t342.length : Int) != 0)), (by first | rfl | (simp; done) | (simp [*]; done)), H', ⟨by have := HJ2.out; first | omega|exact Nat.le_refl _⟩, ⟨by (with_reducible repeat (first|apply rA|apply rN|apply rD)); exact Kd.R_mono HO333.out (fun _ hk => hk.2)⟩, ⟨by (with_reducible repeat (first|apply rA|apply rN|apply rD)); exact Kd.R_mono HO336.out (fun _ hk => hk.2)⟩, ⟨by (with_reducible repeat (first|apply rA|apply rN|apply rD)); exact Kd.R_mono HO341.out (fun _ hk => hk.2)⟩, ⟨by (with_reducible repeat (first|apply rA|apply rN|apply rD)); exact Kd.R_mono HO344.out (fun _ hk => hk.2)⟩, ⟨by (with_reducible repeat (first|apply kN|apply kD|apply kA)); exact BK327.out⟩, ⟨by (with_reducible repeat (first|apply kN|apply kD|apply kA)); exact BK338.out⟩, ⟨by (with_reducible repeat (first|apply kN|apply kD|apply kA)); exact BK346.out⟩, ⟨by repeat (first | (with_reducible first|exact HB.out|apply bA|apply bN|apply bD|refine bS ?_ GE327.out|refine bS ?_ GE338.out|refine bS ?_ GE346.out)|exact HB.out)⟩⟩
       ·rw [if_neg c49] at H
        have c49b0 : (t345 == 20) = false := beq_eq_false_iff_ne.mpr c49
        have c49b1 : (t345 != 20) = true := bne_iff_ne.mpr c49
        as_aux_lemma =>
         have H' := Aside0.mk H
         clear H
         have hnb56 := NB327_338.out
         have hnc56 := NB338_327.out
         have hnb57 := NB327_346.out
         have hnc57 := NB346_327.out
         have hcz58_0 : w37.cell? ⟨gb327, 0, none⟩ = some (.slice A0_0 l0_0.length c0_0) := (blk_cell BK327.out 0).trans rfl
         have hcz58_1 : w37.cell? ⟨gb327, 1, none⟩ = some (.slice A0_1 l0_1.length c0_1) := (blk_cell BK327.out 1).trans rfl
         have hcz58_2 : w37.cell? ⟨gb327, 2, none⟩ = some (.slice A0_2 l0_2.length c0_2) := (blk_cell BK327.out 2).trans rfl
         have hcz58_3 : w37.cell? ⟨gb327, 3, none⟩ = some (.slice A0_3 l0_3.length c0_3) := (blk_cell BK327.out 3).trans rfl
         have hcz58_4 : w37.cell? ⟨gb327, 4, none⟩ = some (.int .i64 a0_4) := (blk_cell BK327.out 4).trans rfl
         have hcz58_5 : w37.cell? ⟨gb327, 5, none⟩ = some (.int .i64 a0_5) := (blk_cell BK327.out 5).trans rfl
         have hcz58_6 : w37.cell? ⟨gb327, 6, none⟩ = some (.int .i64 a0_6) := (blk_cell BK327.out 6).trans rfl
         have hfz58_0 := blk_frozen BK327.out 0
         have hfz58_1 := blk_frozen BK327.out 1
         have hfz58_2 := blk_frozen BK327.out 2
         have hfz58_3 := blk_frozen BK327.out 3
         have hfz58_4 := blk_frozen BK327.out 4
         have hfz58_5 := blk_frozen BK327.out 5
         have hfz58_6 := blk_frozen BK327.out 6
         iterate 7 (first | go_quiet (first | ((with_reducible refine gate_callee (f := 14) rfl ?_); refine goesL_ (some 50) rfl rfl Try.func14 (by kernel_rfl) rfl #[.agg #[.slice A0_0 l0_0.length c0_0, .slice A0_1 l0_1.length c0_1]] rfl (by (try simp only [List.map_toArray, List.map_cons, List.map_nil]); first | done | rfl | (simp only [List.length_drop, List.length_take]; rfl)) ?_; (with_reducible refine (athanorlaw04_right.calls kj2 _ _ l0_0 _ _ l0_1 t349 _ ?side1 ?side2 ?side3 ?side4 A38.out).mono ?_); (case side1 => repeat (first|exact (Kd.C_below HR0_0.out HB.out) | with_reducible first|apply cA|apply cN|apply cD)); (case side2 => exact HC0_0.out); (case side3 => repeat (first|exact (Kd.C_below HR0_1.out HB.out) | with_reducible first|apply cA|apply cN|apply cD)); (case side4 => exact HC0_1.out); rintro e w59 ⟨rfl, hb⟩; refine ⟨_, rfl, ?_⟩; have n0_ := aM (Kd.R_below (by (with_reducible repeat (first|apply rA|apply rN|apply rD)); exact HO333.out) hb); have n1_ := aM (Kd.R_below (by (with_reducible repeat (first|apply rA|apply rN|apply rD)); exact HO336.out) hb); have n2_ := aM (Kd.R_below (by (with_reducible repeat (first|apply rA|apply rN|apply rD)); exact HO341.out) hb); have n3_ := aM (Kd.R_below (by (with_reducible repeat (first|apply rA|apply rN|apply rD)); exact HO344.out) hb); have n4_ := aM (blk_below (g := gb327) (o := .cells #[.slice A0_0 l0_0.length c0_0, .slice A0_1 l0_1.length c0_1, .slice A0_2 l0_2.length c0_2, .slice A0_3 l0_3.length c0_3, .int .i64 a0_4, .int .i64 a0_5, .int .i64 a0_6] 47 (0, 0)) (by (with_reducible repeat (first|apply kN|apply kD|apply kA)); exact BK327.out) hb); have n5_ := aM (blk_below (g := gb338) (o := .cells #[.slice Ao24 t331.length co24, .slice Ao27 t334.length co27] 26 (0, 0)) (by (with_reducible repeat (first|apply kN|apply kD|apply kA)); exact BK338.out) hb); have n6_ := aM (blk_below (g := gb346) (o := .cells #[.slice Ao31 t339.length co31, .slice Ao35 t342.length co35] 26 (0, 0)) (by (with_reducible repeat (first|apply kN|apply kD|apply kA)); exact BK346.out) hb); have n7_ := aM (below_step (by repeat (first | (with_reducible first|exact HB.out|apply bA|apply bN|apply bD|refine bS ?_ GE327.out|refine bS ?_ GE338.out|refine bS ?_ GE346.out)|exact HB.out)) hb); clear HO333; clear HO336; clear HO341; clear HO344; clear BK327; clear BK338; clear BK346; clear HB; have HO333 := n0_; have HO336 := n1_; have HO341 := n2_; have HO344 := n3_; have BK327 := n4_; have BK338 := n5_; have BK346 := n6_; have HB := n7_; clear n0_ n1_ n2_ n3_ n4_ n5_ n6_ n7_; (try clear hb))) | try go_wp2_with (first | ((with_reducible refine gate_callee (f := 14) rfl ?_); refine goesL_ (some 50) rfl rfl Try.func14 (by kernel_rfl) rfl #[.agg #[.slice A0_0 l0_0.length c0_0, .slice A0_1 l0_1.length c0_1]] rfl (by (try simp only [List.map_toArray, List.map_cons, List.map_nil]); first | done | rfl | (simp only [List.length_drop, List.length_take]; rfl)) ?_; (with_reducible refine (athanorlaw04_right.calls kj2 _ _ l0_0 _ _ l0_1 t349 _ ?side1 ?side2 ?side3 ?side4 A38.out).mono ?_); (case side1 => repeat (first|exact (Kd.C_below HR0_0.out HB.out) | with_reducible first|apply cA|apply cN|apply cD)); (case side2 => exact HC0_0.out); (case side3 => repeat (first|exact (Kd.C_below HR0_1.out HB.out) | with_reducible first|apply cA|apply cN|apply cD)); (case side4 => exact HC0_1.out); rintro e w59 ⟨rfl, hb⟩; refine ⟨_, rfl, ?_⟩; have n0_ := aM (Kd.R_below (by (with_reducible repeat (first|apply rA|apply rN|apply rD)); exact HO333.out) hb); have n1_ := aM (Kd.R_below (by (with_reducible repeat (first|apply rA|apply rN|apply rD)); exact HO336.out) hb); have n2_ := aM (Kd.R_below (by (with_reducible repeat (first|apply rA|apply rN|apply rD)); exact HO341.out) hb); have n3_ := aM (Kd.R_below (by (with_reducible repeat (first|apply rA|apply rN|apply rD)); exact HO344.out) hb); have n4_ := aM (blk_below (g := gb327) (o := .cells #[.slice A0_0 l0_0.length c0_0, .slice A0_1 l0_1.length c0_1, .slice A0_2 l0_2.length c0_2, .slice A0_3 l0_3.length c0_3, .int .i64 a0_4, .int .i64 a0_5, .int .i64 a0_6] 47 (0, 0)) (by (with_reducible repeat (first|apply kN|apply kD|apply kA)); exact BK327.out) hb); have n5_ := aM (blk_below (g := gb338) (o := .cells #[.slice Ao24 t331.length co24, .slice Ao27 t334.length co27] 26 (0, 0)) (by (with_reducible repeat (first|apply kN|apply kD|apply kA)); exact BK338.out) hb); have n6_ := aM (blk_below (g := gb346) (o := .cells #[.slice Ao31 t339.length co31, .slice Ao35 t342.length co35] 26 (0, 0)) (by (with_reducible repeat (first|apply kN|apply kD|apply kA)); exact BK346.out) hb); have n7_ := aM (below_step (by repeat (first | (with_reducible first|exact HB.out|apply bA|apply bN|apply bD|refine bS ?_ GE327.out|refine bS ?_ GE338.out|refine bS ?_ GE346.out)|exact HB.out)) hb); clear HO333; clear HO336; clear HO341; clear HO344; clear BK327; clear BK338; clear BK346; clear HB; have HO333 := n0_; have HO336 := n1_; have HO341 := n2_; have HO344 := n3_; have BK327 := n4_; have BK338 := n5_; have BK346 := n6_; have HB := n7_; clear n0_ n1_ n2_ n3_ n4_ n5_ n6_ n7_; (try clear hb))))
         go_meet
         case rel => exact ⟨_, (true), (by first | rfl | (simp; done) | (simp [*]; done)), H', ⟨by have := HJ2.out; first | omega|exact Nat.le_refl _⟩, ⟨by (with_reducible repeat (first|apply rA|apply rN|apply rD)); exact Kd.R_mono HO333.out (fun _ hk => hk.2)⟩, ⟨by (with_reducible repeat (first|apply rA|apply rN|apply rD)); exact Kd.R_mono HO336.out (fun _ hk => hk.2)⟩, ⟨by (with_reducible repeat (first|apply rA|apply rN|apply rD)); exact Kd.R_mono HO341.out (fun _ hk => hk.2)⟩, ⟨by (with_reducible repeat (first|apply rA|apply rN|apply rD)); exact Kd.R_mono HO344.out (fun _ hk => hk.2)⟩, ⟨by (with_reducible repeat (first|apply kN|apply kD|apply kA)); exact BK327.out⟩, ⟨by (with_reducible repeat (first|apply kN|apply kD|apply kA)); exact BK338.out⟩, ⟨by (with_reducible repeat (first|apply kN|apply kD|apply kA)); exact BK346.out⟩, ⟨by repeat (first | (with_reducible first|exact HB.out|apply bA|apply bN|apply bD|refine bS ?_ GE327.out|refine bS ?_ GE338.out|refine bS ?_ GE346.out)|exact HB.out)⟩⟩
    case rest =>
     clear HC20
     (try clear c6); (try clear c14); (try clear c39); (try clear c39b0); (try clear c39b1); (try clear c39b2); (try clear c44); (try clear c44b0); (try clear c44b1); (try clear c49); (try clear c49b0); (try clear c49b1); (try clear hcz10_0); (try clear hcz10_1); (try clear hcz10_2); (try clear hcz10_3); (try clear hcz10_4); (try clear hcz10_5); (try clear hcz10_6); (try clear hcz12_0); (try clear hcz12_1); (try clear hcz12_2); (try clear hcz12_3); (try clear hcz12_4); (try clear hcz12_5); (try clear hcz12_6); (try clear hcz21_0); (try clear hcz21_1); (try clear hcz21_2); (try clear hcz21_3); (try clear hcz21_4); (try clear hcz21_5); (try clear hcz21_6); (try clear hcz26_0); (try clear hcz26_1); (try clear hcz28_0); (try clear hcz28_1); (try clear hcz28_2); (try clear hcz28_3); (try clear hcz28_4); (try clear hcz28_5); (try clear hcz28_6); (try clear hcz34_0); (try clear hcz34_1); (try clear hcz36_0); (try clear hcz36_1); (try clear hcz36_2); (try clear hcz36_3); (try clear hcz36_4); (try clear hcz36_5); (try clear hcz36_6); (try clear hcz42_0); (try clear hcz42_1); (try clear hcz42_2); (try clear hcz42_3); (try clear hcz42_4); (try clear hcz42_5); (try clear hcz42_6); (try clear hcz47_0); (try clear hcz47_1); (try clear hcz47_2); (try clear hcz47_3); (try clear hcz47_4); (try clear hcz47_5); (try clear hcz47_6); (try clear hcz52_0); (try clear hcz52_1); (try clear hcz52_2); (try clear hcz52_3); (try clear hcz52_4); (try clear hcz52_5); (try clear hcz52_6); (try clear hcz55_0); (try clear hcz55_1); (try clear hcz58_0); (try clear hcz58_1); (try clear hcz58_2); (try clear hcz58_3); (try clear hcz58_4); (try clear hcz58_5); (try clear hcz58_6); (try clear hcz8_0); (try clear hcz8_1); (try clear hcz8_2); (try clear hcz8_3); (try clear hcz8_4); (try clear hcz8_5); (try clear hcz8_6); (try clear hfz10_0); (try clear hfz10_1); (try clear hfz10_2); (try clear hfz10_3); (try clear hfz10_4); (try clear hfz10_5); (try clear hfz10_6); (try clear hfz12_0); (try clear hfz12_1); (try clear hfz12_2); (try clear hfz12_3); (try clear hfz12_4); (try clear hfz12_5); (try clear hfz12_6); (try clear hfz21_0); (try clear hfz21_1); (try clear hfz21_2); (try clear hfz21_3); (try clear hfz21_4); (try clear hfz21_5); (try clear hfz21_6); (try clear hfz26_0); (try clear hfz26_1); (try clear hfz28_0); (try clear hfz28_1); (try clear hfz28_2); (try clear hfz28_3); (try clear hfz28_4); (try clear hfz28_5); (try clear hfz28_6); (try clear hfz34_0); (try clear hfz34_1); (try clear hfz36_0); (try clear hfz36_1); (try clear hfz36_2); (try clear hfz36_3); (try clear hfz36_4); (try clear hfz36_5); (try clear hfz36_6); (try clear hfz42_0); (try clear hfz42_1); (try clear hfz42_2); (try clear hfz42_3); (try clear hfz42_4); (try clear hfz42_5); (try clear hfz42_6); (try clear hfz47_0); (try clear hfz47_1); (try clear hfz47_2); (try clear hfz47_3); (try clear hfz47_4); (try clear hfz47_5); (try clear hfz47_6); (try clear hfz52_0); (try clear hfz52_1); (try clear hfz52_2); (try clear hfz52_3); (try clear hfz52_4); (try clear hfz52_5); (try clear hfz52_6); (try clear hfz55_0); (try clear hfz55_1); (try clear hfz58_0); (try clear hfz58_1); (try clear hfz58_2); (try clear hfz58_3); (try clear hfz58_4); (try clear hfz58_5); (try clear hfz58_6); (try clear hfz8_0); (try clear hfz8_1); (try clear hfz8_2); (try clear hfz8_3); (try clear hfz8_4); (try clear hfz8_5); (try clear hfz8_6)
     obtain ⟨kq, x67_19, rfl, HA, HJ19, HO_339000, HO_339001, HO_347000, HO_347001, BK327, BK338, BK346, HB⟩ := hcut
     cases kq with
     | zero => exact absurd HA.out (by simp [athanorlaw04_TensorSums.j1])
     | succ kj19 =>
      have H := HA.out
      clear HA
      simp only [athanorlaw04_TensorSums.j1] at H
      by_cases c60 : x67_19 = true
      ·subst c60
       have H1 : (none) = some r := by rw [if_pos rfl] at H; exact H
       clear H
       have H := H1
       clear H1
       exact absurd H (by simp)
      ·replace c60 := Bool.eq_false_iff.mpr c60
       subst c60
       have H1 : (athanorlaw04_TensorSums.l0 kj19 a1 t337 t347 t348 (t342.length : Int) 0 l0_0 l0_1 l0_2 l0_3 a0_4 a0_5 a0_6 t331 t334 t339 t342) = some r := by rw [if_neg (show ¬ (false = true) by decide)] at H; exact H
       clear H
       have H := H1
       clear H1
       have H' := Aside0.mk H
       clear H
       have hnb61 := NB346_327.out
       have hnc61 := NB327_346.out
       have hnb62 := NB346_338.out
       have hnc62 := NB338_346.out
       have hcz63_0 : wc.cell? ⟨gb346, 0, none⟩ = some (.slice Ao31 t339.length co31) := (blk_cell BK346.out 0).trans rfl
       have hcz63_1 : wc.cell? ⟨gb346, 1, none⟩ = some (.slice Ao35 t342.length co35) := (blk_cell BK346.out 1).trans rfl
       have hfz63_0 := blk_frozen BK346.out 0
       have hfz63_1 := blk_frozen BK346.out 1
       iterate 7 (first | go_quiet (fail) | try go_wp2)
       go_loopg [71] kj19 (fun kq v71 w' => ∃ (x71_3 : Int), v71 = .int .i64 x71_3 ∧ Aside0 (athanorlaw04_TensorSums.l0 kq a1 t337 t347 t348 (t342.length : Int) x71_3 l0_0 l0_1 l0_2 l0_3 a0_4 a0_5 a0_6 t331 t334 t339 t342 = some r) ∧ Aside0 (kq ≤ kj19) ∧ Aside0 (Kd.R (Kd.int .i64) 3 w' w.heap.size (fun k_ => some k_ ≠ ((.slice Ao31 t339.length co31) : Value).ownBlock) (.slice Ao24 t331.length co24) t331) ∧ Aside0 (Kd.R (Kd.int .i64) 27 w' w.heap.size (fun k_ => some k_ ≠ ((.slice Ao35 t342.length co35) : Value).ownBlock) (.slice Ao27 t334.length co27) t334) ∧ Aside0 (Kd.R (Kd.int .i64) 3 w' w.heap.size (fun k_ => some k_ ≠ ((.slice Ao24 t331.length co24) : Value).ownBlock) (.slice Ao31 t339.length co31) t339) ∧ Aside0 (Kd.R (Kd.int .i64) 27 w' w.heap.size (fun k_ => some k_ ≠ ((.slice Ao27 t334.length co27) : Value).ownBlock) (.slice Ao35 t342.length co35) t342) ∧ Aside0 (w'.heap[gb327]? = some (.cells #[(.slice A0_0 l0_0.length c0_0), (.slice A0_1 l0_1.length c0_1), (.slice A0_2 l0_2.length c0_2), (.slice A0_3 l0_3.length c0_3), .int .i64 a0_4, .int .i64 a0_5, .int .i64 a0_6] 47 (0, 0))) ∧ Aside0 (w'.heap[gb338]? = some (.cells #[(.slice Ao24 t331.length co24), (.slice Ao27 t334.length co27)] 26 (0, 0))) ∧ Aside0 (w'.heap[gb346]? = some (.cells #[(.slice Ao31 t339.length co31), (.slice Ao35 t342.length co35)] 26 (0, 0))) ∧ Aside0 (Below w.heap.size w w'))
       case atStart => exact ⟨(0), (by first | rfl | (simp; done) | (simp [*]; done)), H', ⟨Nat.le_refl _⟩, ⟨by (with_reducible repeat (first|apply rA|apply rN|apply rD)); exact HO_339000.out⟩, ⟨by (with_reducible repeat (first|apply rA|apply rN|apply rD)); exact HO_339001.out⟩, ⟨by (with_reducible repeat (first|apply rA|apply rN|apply rD)); exact HO_347000.out⟩, ⟨by (with_reducible repeat (first|apply rA|apply rN|apply rD)); exact HO_347001.out⟩, ⟨by (with_reducible repeat (first|apply kN|apply kD|apply kA)); exact BK327.out⟩, ⟨by (with_reducible repeat (first|apply kN|apply kD|apply kA)); exact BK338.out⟩, ⟨by (with_reducible repeat (first|apply kN|apply kD|apply kA)); exact BK346.out⟩, ⟨by repeat (first | (with_reducible first|exact HB.out|apply bA|apply bN|apply bD|refine bS ?_ GE327.out|refine bS ?_ GE338.out|refine bS ?_ GE346.out)|exact HB.out)⟩⟩
       case round =>
        clear H'
        (try clear c6); (try clear c14); (try clear c39); (try clear c39b0); (try clear c39b1); (try clear c39b2); (try clear c44); (try clear c44b0); (try clear c44b1); (try clear c49); (try clear c49b0); (try clear c49b1); (try clear c60); (try clear hcz10_0); (try clear hcz10_1); (try clear hcz10_2); (try clear hcz10_3); (try clear hcz10_4); (try clear hcz10_5); (try clear hcz10_6); (try clear hcz12_0); (try clear hcz12_1); (try clear hcz12_2); (try clear hcz12_3); (try clear hcz12_4); (try clear hcz12_5); (try clear hcz12_6); (try clear hcz21_0); (try clear hcz21_1); (try clear hcz21_2); (try clear hcz21_3); (try clear hcz21_4); (try clear hcz21_5); (try clear hcz21_6); (try clear hcz26_0); (try clear hcz26_1); (try clear hcz28_0); (try clear hcz28_1); (try clear hcz28_2); (try clear hcz28_3); (try clear hcz28_4); (try clear hcz28_5); (try clear hcz28_6); (try clear hcz34_0); (try clear hcz34_1); (try clear hcz36_0); (try clear hcz36_1); (try clear hcz36_2); (try clear hcz36_3); (try clear hcz36_4); (try clear hcz36_5); (try clear hcz36_6); (try clear hcz42_0); (try clear hcz42_1); (try clear hcz42_2); (try clear hcz42_3); (try clear hcz42_4); (try clear hcz42_5); (try clear hcz42_6); (try clear hcz47_0); (try clear hcz47_1); (try clear hcz47_2); (try clear hcz47_3); (try clear hcz47_4); (try clear hcz47_5); (try clear hcz47_6); (try clear hcz52_0); (try clear hcz52_1); (try clear hcz52_2); (try clear hcz52_3); (try clear hcz52_4); (try clear hcz52_5); (try clear hcz52_6); (try clear hcz55_0); (try clear hcz55_1); (try clear hcz58_0); (try clear hcz58_1); (try clear hcz58_2); (try clear hcz58_3); (try clear hcz58_4); (try clear hcz58_5); (try clear hcz58_6); (try clear hcz63_0); (try clear hcz63_1); (try clear hcz8_0); (try clear hcz8_1); (try clear hcz8_2); (try clear hcz8_3); (try clear hcz8_4); (try clear hcz8_5); (try clear hcz8_6); (try clear hfz10_0); (try clear hfz10_1); (try clear hfz10_2); (try clear hfz10_3); (try clear hfz10_4); (try clear hfz10_5); (try clear hfz10_6); (try clear hfz12_0); (try clear hfz12_1); (try clear hfz12_2); (try clear hfz12_3); (try clear hfz12_4); (try clear hfz12_5); (try clear hfz12_6); (try clear hfz21_0); (try clear hfz21_1); (try clear hfz21_2); (try clear hfz21_3); (try clear hfz21_4); (try clear hfz21_5); (try clear hfz21_6); (try clear hfz26_0); (try clear hfz26_1); (try clear hfz28_0); (try clear hfz28_1); (try clear hfz28_2); (try clear hfz28_3); (try clear hfz28_4); (try clear hfz28_5); (try clear hfz28_6); (try clear hfz34_0); (try clear hfz34_1); (try clear hfz36_0); (try clear hfz36_1); (try clear hfz36_2); (try clear hfz36_3); (try clear hfz36_4); (try clear hfz36_5); (try clear hfz36_6); (try clear hfz42_0); (try clear hfz42_1); (try clear hfz42_2); (try clear hfz42_3); (try clear hfz42_4); (try clear hfz42_5); (try clear hfz42_6); (try clear hfz47_0); (try clear hfz47_1); (try clear hfz47_2); (try clear hfz47_3); (try clear hfz47_4); (try clear hfz47_5); (try clear hfz47_6); (try clear hfz52_0); (try clear hfz52_1); (try clear hfz52_2); (try clear hfz52_3); (try clear hfz52_4); (try clear hfz52_5); (try clear hfz52_6); (try clear hfz55_0); (try clear hfz55_1); (try clear hfz58_0); (try clear hfz58_1); (try clear hfz58_2); (try clear hfz58_3); (try clear hfz58_4); (try clear hfz58_5); (try clear hfz58_6); (try clear hfz63_0); (try clear hfz63_1); (try clear hfz8_0); (try clear hfz8_1); (try clear hfz8_2); (try clear hfz8_3); (try clear hfz8_4); (try clear hfz8_5); (try clear hfz8_6)
        obtain ⟨x71_3, rfl, HA, HK3, HO_339000, HO_339001, HO_347000, HO_347001, BK327, BK338, BK346, HB⟩ := hrel
        cases gk with
        | zero => exact absurd HA.out (by simp [athanorlaw04_TensorSums.l0])
        | succ k3 =>
         have H := HA.out
         clear HA
         simp only [athanorlaw04_TensorSums.l0] at H
         by_cases c64 : x71_3 < (t342.length : Int)
         ·rw [if_pos c64] at H
          have c64b0 : decide (x71_3 < (t342.length : Int)) = true := decide_eq_true c64
          clear c64
          by_cases c65 : x71_3 ≥ (l0_1.length : Int)
          ·rw [if_pos c65] at H
           have c65b0 : decide ((l0_1.length : Int) ≤ x71_3) = true := decide_eq_true c65
           clear c65
           exact absurd H (by simp)
          ·rw [if_neg c65] at H
           have c65b0 : decide ((l0_1.length : Int) ≤ x71_3) = false := decide_eq_false c65
           clear c65
           by_cases c66 : 0 ≤ x71_3
           ·rw [if_pos c66] at H
            have c66b0 : decide (0 ≤ x71_3) = true := decide_eq_true c66
            clear c66
            by_cases c67 : x71_3 < (t342.length : Int)
            ·rw [if_pos c67] at H
             have c67b0 : decide (x71_3 < (t342.length : Int)) = true := decide_eq_true c67
             clear c67
             by_cases c68 : x71_3 < (l0_1.length : Int)
             ·rw [if_pos c68] at H
              have c68b0 : decide (x71_3 < (l0_1.length : Int)) = true := decide_eq_true c68
              clear c68
              replace H := Option.bind_eq_some_iff.mp H
              obtain ⟨t352, A690, H⟩ := H
              replace H : (if (rd t342 x71_3) = t352 then (athanorlaw04_TensorSums.l0 k3 a1 t337 t347 t348 (t342.length : Int) (wrap64 (x71_3 + 1)) l0_0 l0_1 l0_2 l0_3 a0_4 a0_5 a0_6 t331 t334 t339 t342) else (none)) = some r := H
              have A69 := Aside0.mk A690
              clear A690
              by_cases c70 : (rd t342 x71_3) = t352
              ·rw [if_pos c70] at H
               have c70b0 : ((rd t342 x71_3) == t352) = true := beq_iff_eq.mpr c70
               have c70b1 : ((rd t342 x71_3) != t352) = false := bne_eq_false_iff_eq.mpr c70
               clear c70
               as_aux_lemma =>
                have H' := Aside0.mk H
                clear H
                try go_wp2
                have n0_ := aM (Kd.R_drew HO_339000.out)
                have n1_ := aM (Kd.R_drew HO_339001.out)
                have n2_ := aM (Kd.R_drew HO_347000.out)
                have n3_ := aM (Kd.R_drew HO_347001.out)
                have n4_ := aM (blk_drew BK327.out)
                have n5_ := aM (blk_drew BK338.out)
                have n6_ := aM (blk_drew BK346.out)
                have n7_ := aM (below_drew1 HB.out)
                clear HO_339000
                clear HO_339001
                clear HO_347000
                clear HO_347001
                clear BK327
                clear BK338
                clear BK346
                clear HB
                have HO_339000 := n0_
                have HO_339001 := n1_
                have HO_347000 := n2_
                have HO_347001 := n3_
                have BK327 := n4_
                have BK338 := n5_
                have BK346 := n6_
                have HB := n7_
                clear n0_ n1_ n2_ n3_ n4_ n5_ n6_ n7_
                have p350 : 0 ≤ (x71_3 : Int) := of_decide_eq_true (by first | (with_reducible assumption) | assumption)
                have q350 : x71_3 < (t342.length : Int) := of_decide_eq_true (by first | (with_reducible assumption) | assumption)
                obtain ⟨ad350, e350, hx350_0⟩ := Kd.at_int (Kd.R_reads' HO_347001.out).2.2 x71_3 p350 q350
                cases e350
                replace p350 := eq_true p350
                replace q350 := eq_true q350
                have p351 : 0 ≤ (x71_3 : Int) := of_decide_eq_true (by first | (with_reducible assumption) | assumption)
                have q351 : x71_3 < (l0_1.length : Int) := of_decide_eq_true (by first | (with_reducible assumption) | assumption)
                obtain ⟨ad351, e351, hx351_0⟩ := Kd.at_int HR0_1.out x71_3 p351 q351
                have hw351_0 := hx351_0
                cases e351
                replace hx351_0 := (HB.out.cell (World.block_lt_of_cell? w _ hx351_0)).trans hx351_0
                replace p351 := eq_true p351
                replace q351 := eq_true q351
                refine start_ (n := 22) (S := fun w' => w'.cell? ⟨gb327, 0, none⟩ = some (.slice A0_0 l0_0.length c0_0) ∧ w'.cell? ⟨gb327, 1, none⟩ = some (.slice (some ad351) l0_1.length c0_1) ∧ w'.cell? ⟨gb327, 2, none⟩ = some (.slice A0_2 l0_2.length c0_2) ∧ w'.cell? ⟨gb327, 3, none⟩ = some (.slice A0_3 l0_3.length c0_3) ∧ w'.cell? ⟨gb327, 4, none⟩ = some (.int .i64 a0_4) ∧ w'.cell? ⟨gb327, 5, none⟩ = some (.int .i64 a0_5) ∧ w'.cell? ⟨gb327, 6, none⟩ = some (.int .i64 a0_6) ∧ w'.cell? ⟨gb346, 0, none⟩ = some (.slice Ao31 t339.length co31) ∧ w'.cell? ⟨gb346, 1, none⟩ = some (.slice (some ad350) t342.length co35) ∧ w'.cell? (ad350.add (x71_3).toNat) = some (.int .i64 (rd t342 x71_3)) ∧ w'.cell? (ad351.add (x71_3).toNat) = some (.int .i64 (rd l0_1 x71_3))) (ds := []) #[false, false, false, false, false, false, false, false, false, false, false, false, false, false, false, false, false, false, false, false, false, false] (by kernel_rfl) rfl rfl ⟨(blk_cell BK327.out 0).trans rfl, (blk_cell BK327.out 1).trans rfl, (blk_cell BK327.out 2).trans rfl, (blk_cell BK327.out 3).trans rfl, (blk_cell BK327.out 4).trans rfl, (blk_cell BK327.out 5).trans rfl, (blk_cell BK327.out 6).trans rfl, (blk_cell BK346.out 0).trans rfl, (blk_cell BK346.out 1).trans rfl, hx350_0, ((HB.out.cell (World.block_lt_of_cell? w _ hw351_0)).trans hw351_0)⟩ (fun hHeld => ?_); refine with_tabW athanorlaw04_TensorSums.tab11 athanorlaw04_TensorSums.bits11 (fun HT_ HW_ => ?_)
                generalize wr.drew = w71 at HO_339000 HO_339001 HO_347000 HO_347001 BK327 BK338 BK346 HB hx350_0 hx351_0 hHeld ⊢
                refine pure_ (i := 0) (N := some 74) (v := ?_) (a' := ?_) #[true, false, false, false, false, false, false, false, false, false, false, false, false, false, false, false, false, false, false, false, false, false] rfl rfl (any_of HT_.out (by kernel_rfl)) (fun _ _ _ h => h) (Or.inl ⟨by rfl, ?_⟩) ?_ ?_
                rotate_left
                ·intro w'
                 go_simp
                 with_reducible rfl
                rotate_left
                ·simp only [Act.put, List.setIfInBounds_toArray, List.set_cons_zero, List.set_cons_succ, i64_w, i32_w]
                 rfl
                refine pure_ (i := 1) (N := some 75) (v := ?_) (a' := ?_) #[true, true, false, false, false, false, false, false, false, false, false, false, false, false, false, false, false, false, false, false, false, false] rfl rfl (any_of HT_.out (by kernel_rfl)) (fun _ _ _ h => h) (Or.inl ⟨by rfl, ?_⟩) ?_ ?_
                rotate_left
                ·intro w'
                 go_simp
                 with_reducible rfl
                rotate_left
                ·simp only [Act.put, List.setIfInBounds_toArray, List.set_cons_zero, List.set_cons_succ, i64_w, i32_w]
                 rfl
                refine pure_ (i := 2) (N := some 76) (v := ?_) (a' := ?_) #[true, true, true, false, false, false, false, false, false, false, false, false, false, false, false, false, false, false, false, false, false, false] rfl rfl (any_of HT_.out (by kernel_rfl)) (fun _ _ _ h => h) (Or.inl ⟨by rfl, ?_⟩) ?_ ?_
                rotate_left
                ·intro w'
                 go_simp
                 with_reducible rfl
                rotate_left
                ·simp only [Act.put, List.setIfInBounds_toArray, List.set_cons_zero, List.set_cons_succ, i64_w, i32_w]
                 rfl
                refine take_ (i := 3) (N := some 77) (v := ?_) (a' := ?_) #[true, true, true, true, false, false, false, false, false, false, false, false, false, false, false, false, false, false, false, false, false, false] rfl rfl (take_ofW HT_.out HW_.out (by kernel_rfl)) (fun _ _ _ h => h) (Or.inl ⟨by rfl, ?_⟩) hHeld ?_ ?_
                rotate_left
                ·rintro w' ⟨s0, s1, s2, s3, s4, s5, s6, s7, s8, s9, s10⟩
                 go_simp
                 with_reducible rfl
                rotate_left
                ·simp only [Act.put, List.setIfInBounds_toArray, List.set_cons_zero, List.set_cons_succ, i64_w, i32_w]
                 rfl
                refine pure_ (i := 4) (N := some 78) (v := ?_) (a' := ?_) #[true, true, true, true, true, false, false, false, false, false, false, false, false, false, false, false, false, false, false, false, false, false] rfl rfl (any_of HT_.out (by kernel_rfl)) (fun _ _ _ h => h) (Or.inl ⟨by rfl, ?_⟩) ?_ ?_
                rotate_left
                ·intro w'
                 go_simp
                 with_reducible rfl
                rotate_left
                ·simp only [Act.put, List.setIfInBounds_toArray, List.set_cons_zero, List.set_cons_succ, i64_w, i32_w]
                 rfl
                refine pure_ (i := 5) (N := some 79) (v := ?_) (a' := ?_) #[true, true, true, true, true, true, false, false, false, false, false, false, false, false, false, false, false, false, false, false, false, false] rfl rfl (any_of HT_.out (by kernel_rfl)) (fun _ _ _ h => h) (Or.inl ⟨by rfl, ?_⟩) ?_ ?_
                rotate_left
                ·intro w'
                 go_simp
                 with_reducible rfl
                rotate_left
                ·simp only [Act.put, List.setIfInBounds_toArray, List.set_cons_zero, List.set_cons_succ, i64_w, i32_w]
                 rfl
                refine pure_ (i := 6) (N := some 80) (v := ?_) (a' := ?_) #[true, true, true, true, true, true, true, false, false, false, false, false, false, false, false, false, false, false, false, false, false, false] rfl rfl (any_of HT_.out (by kernel_rfl)) (fun _ _ _ h => h) (Or.inl ⟨by rfl, ?_⟩) ?_ ?_
                rotate_left
                ·intro w'
                 go_simp
                 with_reducible rfl
                rotate_left
                ·simp only [Act.put, List.setIfInBounds_toArray, List.set_cons_zero, List.set_cons_succ, i64_w, i32_w]
                 rfl
                refine pure_ (i := 7) (N := some 81) (v := ?_) (a' := ?_) #[true, true, true, true, true, true, true, true, false, false, false, false, false, false, false, false, false, false, false, false, false, false] rfl rfl (any_of HT_.out (by kernel_rfl)) (fun _ _ _ h => h) (Or.inl ⟨by rfl, ?_⟩) ?_ ?_
                rotate_left
                ·intro w'
                 go_simp
                 with_reducible rfl
                rotate_left
                ·simp only [Act.put, List.setIfInBounds_toArray, List.set_cons_zero, List.set_cons_succ, i64_w, i32_w]
                 rfl
                refine pure_ (i := 9) (N := some 83) (v := ?_) (a' := ?_) #[true, true, true, true, true, true, true, true, false, true, false, false, false, false, false, false, false, false, false, false, false, false] rfl rfl (any_of HT_.out (by kernel_rfl)) (fun _ _ _ h => h) (Or.inl ⟨by rfl, ?_⟩) ?_ ?_
                rotate_left
                ·intro w'
                 go_simp
                 with_reducible rfl
                rotate_left
                ·simp only [Act.put, List.setIfInBounds_toArray, List.set_cons_zero, List.set_cons_succ, i64_w, i32_w]
                 rfl
                refine pure_ (i := 12) (N := some 86) (v := ?_) (a' := ?_) #[true, true, true, true, true, true, true, true, false, true, false, false, true, false, false, false, false, false, false, false, false, false] rfl rfl (any_of HT_.out (by kernel_rfl)) (fun _ _ _ h => h) (Or.inl ⟨by rfl, ?_⟩) ?_ ?_
                rotate_left
                ·intro w'
                 go_simp
                 with_reducible rfl
                rotate_left
                ·simp only [Act.put, List.setIfInBounds_toArray, List.set_cons_zero, List.set_cons_succ, i64_w, i32_w]
                 rfl
                refine pure_ (i := 13) (N := some 87) (v := ?_) (a' := ?_) #[true, true, true, true, true, true, true, true, false, true, false, false, true, true, false, false, false, false, false, false, false, false] rfl rfl (any_of HT_.out (by kernel_rfl)) (fun _ _ _ h => h) (Or.inl ⟨by rfl, ?_⟩) ?_ ?_
                rotate_left
                ·intro w'
                 go_simp
                 with_reducible rfl
                rotate_left
                ·simp only [Act.put, List.setIfInBounds_toArray, List.set_cons_zero, List.set_cons_succ, i64_w, i32_w]
                 rfl
                refine pure_ (i := 15) (N := some 89) (v := ?_) (a' := ?_) #[true, true, true, true, true, true, true, true, false, true, false, false, true, true, false, true, false, false, false, false, false, false] rfl rfl (any_of HT_.out (by kernel_rfl)) (fun _ _ _ h => h) (Or.inl ⟨by rfl, ?_⟩) ?_ ?_
                rotate_left
                ·intro w'
                 go_simp
                 with_reducible rfl
                rotate_left
                ·simp only [Act.put, List.setIfInBounds_toArray, List.set_cons_zero, List.set_cons_succ, i64_w, i32_w]
                 rfl
                refine pure_ (i := 18) (N := some 92) (v := ?_) (a' := ?_) #[true, true, true, true, true, true, true, true, false, true, false, false, true, true, false, true, false, false, true, false, false, false] rfl rfl (any_of HT_.out (by kernel_rfl)) (fun _ _ _ h => h) (Or.inl ⟨by rfl, ?_⟩) ?_ ?_
                rotate_left
                ·intro w'
                 go_simp
                 with_reducible rfl
                rotate_left
                ·simp only [Act.put, List.setIfInBounds_toArray, List.set_cons_zero, List.set_cons_succ, i64_w, i32_w]
                 rfl
                refine take_ (i := 8) (N := some 82) (v := ?_) (a' := ?_) #[true, true, true, true, true, true, true, true, true, true, false, false, true, true, false, true, false, false, true, false, false, false] rfl rfl (take_ofW HT_.out HW_.out (by kernel_rfl)) (fun _ _ _ h => h) (Or.inl ⟨by rfl, ?_⟩) hHeld ?_ ?_
                rotate_left
                ·rintro w' ⟨s0, s1, s2, s3, s4, s5, s6, s7, s8, s9, s10⟩
                 go_simp
                 with_reducible rfl
                rotate_left
                ·simp only [Act.put, List.setIfInBounds_toArray, List.set_cons_zero, List.set_cons_succ, i64_w, i32_w]
                 rfl
                refine pure_ (i := 10) (N := some 84) (v := ?_) (a' := ?_) #[true, true, true, true, true, true, true, true, true, true, true, false, true, true, false, true, false, false, true, false, false, false] rfl rfl (any_of HT_.out (by kernel_rfl)) (fun _ _ _ h => h) (Or.inl ⟨by rfl, ?_⟩) ?_ ?_
                rotate_left
                ·intro w'
                 go_simp
                 with_reducible rfl
                rotate_left
                ·simp only [Act.put, List.setIfInBounds_toArray, List.set_cons_zero, List.set_cons_succ, i64_w, i32_w]
                 rfl
                refine take_ (i := 11) (N := some 85) (v := ?_) (a' := ?_) #[true, true, true, true, true, true, true, true, true, true, true, true, true, true, false, true, false, false, true, false, false, false] rfl rfl (take_ofW HT_.out HW_.out (by kernel_rfl)) (fun _ _ _ h => h) (Or.inl ⟨by rfl, ?_⟩) hHeld ?_ ?_
                rotate_left
                ·rintro w' ⟨s0, s1, s2, s3, s4, s5, s6, s7, s8, s9, s10⟩
                 go_simp
                 with_reducible rfl
                rotate_left
                ·simp only [Act.put, List.setIfInBounds_toArray, List.set_cons_zero, List.set_cons_succ, i64_w, i32_w]
                 rfl
                refine take_ (i := 14) (N := some 88) (v := ?_) (a' := ?_) #[true, true, true, true, true, true, true, true, true, true, true, true, true, true, true, true, false, false, true, false, false, false] rfl rfl (take_ofW HT_.out HW_.out (by kernel_rfl)) (fun _ _ _ h => h) (Or.inl ⟨by rfl, ?_⟩) hHeld ?_ ?_
                rotate_left
                ·rintro w' ⟨s0, s1, s2, s3, s4, s5, s6, s7, s8, s9, s10⟩
                 go_simp
                 with_reducible rfl
                rotate_left
                ·simp only [Act.put, List.setIfInBounds_toArray, List.set_cons_zero, List.set_cons_succ, i64_w, i32_w]
                 rfl
                refine pure_ (i := 16) (N := some 90) (v := ?_) (a' := ?_) #[true, true, true, true, true, true, true, true, true, true, true, true, true, true, true, true, true, false, true, false, false, false] rfl rfl (any_of HT_.out (by kernel_rfl)) (fun _ _ _ h => h) (Or.inl ⟨by rfl, ?_⟩) ?_ ?_
                rotate_left
                ·intro w'
                 go_simp
                 with_reducible rfl
                rotate_left
                ·simp only [Act.put, List.setIfInBounds_toArray, List.set_cons_zero, List.set_cons_succ, i64_w, i32_w]
                 rfl
                refine take_ (i := 17) (N := some 91) (v := ?_) (a' := ?_) #[true, true, true, true, true, true, true, true, true, true, true, true, true, true, true, true, true, true, true, false, false, false] rfl rfl (take_ofW HT_.out HW_.out (by kernel_rfl)) (fun _ _ _ h => h) (Or.inl ⟨by rfl, ?_⟩) hHeld ?_ ?_
                rotate_left
                ·rintro w' ⟨s0, s1, s2, s3, s4, s5, s6, s7, s8, s9, s10⟩
                 go_simp
                 with_reducible rfl
                rotate_left
                ·simp only [Act.put, List.setIfInBounds_toArray, List.set_cons_zero, List.set_cons_succ, i64_w, i32_w]
                 rfl
                refine one_ (i := 19) (N := some 93) #[true, true, true, true, true, true, true, true, true, true, true, true, true, true, true, true, true, true, true, true, false, false] rfl rfl (one_of HT_.out (by kernel_rfl)) (by decide) (fun K hK => ?_)
                refine goes_ Try.func25 (by kernel_rfl) rfl #[.int .i64 (rd l0_1 x71_3), .int .i64 a1] (by rfl) rfl rfl (by (try simp only [List.map_toArray, List.map_cons, List.map_nil]); first | done | rfl | (simp only [List.length_drop, List.length_take]; rfl)) ?_
                with_reducible refine (athanorref01_Mul.calls k3 (rd l0_1 x71_3) a1 t352 _ A69.out).mono ?_
                rintro e w72 ⟨rfl, hb⟩
                have HS9_ := (hb.cell (World.block_lt_of_cell? _ _ (hHeld.2.2.2.2.2.2.2.2.2.1))).trans (hHeld.2.2.2.2.2.2.2.2.2.1)
                refine ⟨_, rfl, ?_⟩
                have n0_ := aM (Kd.R_below (by (with_reducible repeat (first|apply rA|apply rN|apply rD)); exact HO_339000.out) hb)
                have n1_ := aM (Kd.R_below (by (with_reducible repeat (first|apply rA|apply rN|apply rD)); exact HO_339001.out) hb)
                have n2_ := aM (Kd.R_below (by (with_reducible repeat (first|apply rA|apply rN|apply rD)); exact HO_347000.out) hb)
                have n3_ := aM (Kd.R_below (by (with_reducible repeat (first|apply rA|apply rN|apply rD)); exact HO_347001.out) hb)
                have n4_ := aM (blk_below (g := gb327) (o := .cells #[.slice A0_0 l0_0.length c0_0, .slice (some ad351) l0_1.length c0_1, .slice A0_2 l0_2.length c0_2, .slice A0_3 l0_3.length c0_3, .int .i64 a0_4, .int .i64 a0_5, .int .i64 a0_6] 47 (0, 0)) (by (with_reducible repeat (first|apply kN|apply kD|apply kA)); exact BK327.out) hb)
                have n5_ := aM (blk_below (g := gb338) (o := .cells #[.slice Ao24 t331.length co24, .slice Ao27 t334.length co27] 26 (0, 0)) (by (with_reducible repeat (first|apply kN|apply kD|apply kA)); exact BK338.out) hb)
                have n6_ := aM (blk_below (g := gb346) (o := .cells #[.slice Ao31 t339.length co31, .slice (some ad350) t342.length co35] 26 (0, 0)) (by (with_reducible repeat (first|apply kN|apply kD|apply kA)); exact BK346.out) hb)
                have n7_ := aM (below_step (by repeat (first | (with_reducible first|exact HB.out|apply bA|apply bN|apply bD|refine bS ?_ GE327.out|refine bS ?_ GE338.out|refine bS ?_ GE346.out)|exact HB.out)) hb)
                clear HO_339000
                clear HO_339001
                clear HO_347000
                clear HO_347001
                clear BK327
                clear BK338
                clear BK346
                clear HB
                have HO_339000 := n0_
                have HO_339001 := n1_
                have HO_347000 := n2_
                have HO_347001 := n3_
                have BK327 := n4_
                have BK338 := n5_
                have BK346 := n6_
                have HB := n7_
                clear n0_ n1_ n2_ n3_ n4_ n5_ n6_ n7_
                (try clear hb)
                skip
                (try clear hk)
                skip
                refine hK.out _ _ ⟨(blk_cell BK327.out 0).trans rfl, (blk_cell BK327.out 1).trans rfl, (blk_cell BK327.out 2).trans rfl, (blk_cell BK327.out 3).trans rfl, (blk_cell BK327.out 4).trans rfl, (blk_cell BK327.out 5).trans rfl, (blk_cell BK327.out 6).trans rfl, (blk_cell BK346.out 0).trans rfl, (blk_cell BK346.out 1).trans rfl, HS9_, ((HB.out.cell (World.block_lt_of_cell? w _ hw351_0)).trans hw351_0)⟩ (fun hHeld => ?_)
                clear hK K
                refine norm_ (a' := ?_) ?_ ?_
                rotate_left
                ·show Act.put _ (some 93) _ = _
                 simp only [Act.put, List.setIfInBounds_toArray, List.set_cons_zero, List.set_cons_succ, i64_w, i32_w]
                 rfl
                refine pure_ (i := 20) (N := some 94) (v := ?_) (a' := ?_) #[true, true, true, true, true, true, true, true, true, true, true, true, true, true, true, true, true, true, true, true, true, false] rfl rfl (any_of HT_.out (by kernel_rfl)) (fun _ _ _ h => h) (Or.inl ⟨by rfl, ?_⟩) ?_ ?_
                rotate_left
                ·intro w'
                 go_simp
                 with_reducible rfl
                rotate_left
                ·simp only [Act.put, List.setIfInBounds_toArray, List.set_cons_zero, List.set_cons_succ, i64_w, i32_w]
                 rfl
                refine pure_ (i := 21) (N := some 95) (v := ?_) (a' := ?_) #[true, true, true, true, true, true, true, true, true, true, true, true, true, true, true, true, true, true, true, true, true, true] rfl rfl (any_of HT_.out (by kernel_rfl)) (fun _ _ _ h => h) (Or.inl ⟨by rfl, ?_⟩) ?_ ?_
                rotate_left
                ·intro w'
                 go_simp
                 with_reducible rfl
                rotate_left
                ·simp only [Act.put, List.setIfInBounds_toArray, List.set_cons_zero, List.set_cons_succ, i64_w, i32_w]
                 rfl
                refine done_ (done_of HT_.out (by kernel_rfl)) ?_
                iterate 7 (first | go_quiet (fail) | try go_wp2)
                go_roundg k3
                case measure => have := HJ2.out; have := HJ19.out; have := HK3.out; omega
                case rel => exact ⟨(wrap64 (x71_3 + 1)), (by first | rfl | (simp; done) | (simp [*]; done)), H', ⟨by have := HJ2.out; have := HJ19.out; have := HK3.out; omega⟩, ⟨by (with_reducible repeat (first|apply rA|apply rN|apply rD)); exact HO_339000.out⟩, ⟨by (with_reducible repeat (first|apply rA|apply rN|apply rD)); exact HO_339001.out⟩, ⟨by (with_reducible repeat (first|apply rA|apply rN|apply rD)); exact HO_347000.out⟩, ⟨by (with_reducible repeat (first|apply rA|apply rN|apply rD)); exact HO_347001.out⟩, ⟨by (with_reducible repeat (first|apply kN|apply kD|apply kA)); exact BK327.out⟩, ⟨by (with_reducible repeat (first|apply kN|apply kD|apply kA)); exact BK338.out⟩, ⟨by (with_reducible repeat (first|apply kN|apply kD|apply kA)); exact BK346.out⟩, ⟨by repeat (first | (with_reducible first|exact HB.out|apply bA|apply bN|apply bD|refine bS ?_ GE327.out|refine bS ?_ GE338.out|refine bS ?_ GE346.out)|exact HB.out)⟩⟩
              ·rw [if_neg c70] at H
               exact absurd H (by simp)
             ·rw [if_neg c68] at H
              exact absurd H (by simp)
            ·rw [if_neg c67] at H
             exact absurd H (by simp)
           ·rw [if_neg c66] at H
            exact absurd H (by simp)
         ·rw [if_neg c64] at H
          have c64b0 : decide (x71_3 < (t342.length : Int)) = false := decide_eq_false c64
          clear c64
          have HC73 := Aside0.mk H
          clear H
          go_upto_region 14 with (fail)
          go_cut [116] (fun v116 wc => ∃ (kq : Nat) (x116_72 : Bool), v116 = .bool x116_72 ∧ Aside0 (athanorlaw04_TensorSums.j3 kq t337 t347 t348 x116_72 l0_0 l0_1 l0_2 l0_3 a0_4 a0_5 a0_6 t331 t334 t339 t342 = some r) ∧ Aside0 (kq ≤ k3) ∧ Aside0 (Kd.R (Kd.int .i64) 3 wc w.heap.size (fun k_ => some k_ ≠ ((.slice Ao31 t339.length co31) : Value).ownBlock) (.slice Ao24 t331.length co24) t331) ∧ Aside0 (Kd.R (Kd.int .i64) 27 wc w.heap.size (fun k_ => some k_ ≠ ((.slice Ao35 t342.length co35) : Value).ownBlock) (.slice Ao27 t334.length co27) t334) ∧ Aside0 (Kd.R (Kd.int .i64) 3 wc w.heap.size (fun k_ => some k_ ≠ ((.slice Ao24 t331.length co24) : Value).ownBlock) (.slice Ao31 t339.length co31) t339) ∧ Aside0 (Kd.R (Kd.int .i64) 27 wc w.heap.size (fun k_ => some k_ ≠ ((.slice Ao27 t334.length co27) : Value).ownBlock) (.slice Ao35 t342.length co35) t342) ∧ Aside0 (wc.heap[gb327]? = some (.cells #[(.slice A0_0 l0_0.length c0_0), (.slice A0_1 l0_1.length c0_1), (.slice A0_2 l0_2.length c0_2), (.slice A0_3 l0_3.length c0_3), .int .i64 a0_4, .int .i64 a0_5, .int .i64 a0_6] 47 (0, 0))) ∧ Aside0 (wc.heap[gb338]? = some (.cells #[(.slice Ao24 t331.length co24), (.slice Ao27 t334.length co27)] 26 (0, 0))) ∧ Aside0 (wc.heap[gb346]? = some (.cells #[(.slice Ao31 t339.length co31), (.slice Ao35 t342.length co35)] 26 (0, 0))) ∧ Aside0 (Below w.heap.size w wc))
          case first =>
           have H := HC73.out
           clear HC73
           replace H := Option.bind_eq_some_iff.mp H
           obtain ⟨t353, A740, H⟩ := H
           replace H : (if t353 = true then ((athanorlaw04_right.f k3 l0_2 l0_3).bind fun t354 => (if t354 = true then ((athanorref03_Same.f k3 l0_0 l0_2).bind fun t355 => (athanorlaw04_TensorSums.j3 k3 t337 t347 t348 (!t355) l0_0 l0_1 l0_2 l0_3 a0_4 a0_5 a0_6 t331 t334 t339 t342)) else (athanorlaw04_TensorSums.j3 k3 t337 t347 t348 true l0_0 l0_1 l0_2 l0_3 a0_4 a0_5 a0_6 t331 t334 t339 t342))) else (athanorlaw04_TensorSums.j3 k3 t337 t347 t348 true l0_0 l0_1 l0_2 l0_3 a0_4 a0_5 a0_6 t331 t334 t339 t342)) = some r := H
           have A74 := Aside0.mk A740
           clear A740
           by_cases c75 : t353 = true
           ·subst c75
            have H1 : ((athanorlaw04_right.f k3 l0_2 l0_3).bind fun t354 => (if t354 = true then ((athanorref03_Same.f k3 l0_0 l0_2).bind fun t355 => (athanorlaw04_TensorSums.j3 k3 t337 t347 t348 (!t355) l0_0 l0_1 l0_2 l0_3 a0_4 a0_5 a0_6 t331 t334 t339 t342)) else (athanorlaw04_TensorSums.j3 k3 t337 t347 t348 true l0_0 l0_1 l0_2 l0_3 a0_4 a0_5 a0_6 t331 t334 t339 t342))) = some r := by rw [if_pos rfl] at H; exact H
            clear H
            have H := H1
            clear H1
            replace H := Option.bind_eq_some_iff.mp H
            obtain ⟨t354, A760, H⟩ := H
            replace H : (if t354 = true then ((athanorref03_Same.f k3 l0_0 l0_2).bind fun t355 => (athanorlaw04_TensorSums.j3 k3 t337 t347 t348 (!t355) l0_0 l0_1 l0_2 l0_3 a0_4 a0_5 a0_6 t331 t334 t339 t342)) else (athanorlaw04_TensorSums.j3 k3 t337 t347 t348 true l0_0 l0_1 l0_2 l0_3 a0_4 a0_5 a0_6 t331 t334 t339 t342)) = some r := H
            have A76 := Aside0.mk A760
            clear A760
            by_cases c77 : t354 = true
            ·subst c77
             have H1 : ((athanorref03_Same.f k3 l0_0 l0_2).bind fun t355 => (athanorlaw04_TensorSums.j3 k3 t337 t347 t348 (!t355) l0_0 l0_1 l0_2 l0_3 a0_4 a0_5 a0_6 t331 t334 t339 t342)) = some r := by rw [if_pos rfl] at H; exact H
             clear H
             have H := H1
             clear H1
             replace H := Option.bind_eq_some_iff.mp H
             obtain ⟨t355, A780, H⟩ := H
             replace H : (athanorlaw04_TensorSums.j3 k3 t337 t347 t348 (!t355) l0_0 l0_1 l0_2 l0_3 a0_4 a0_5 a0_6 t331 t334 t339 t342) = some r := H
             have A78 := Aside0.mk A780
             clear A780
             as_aux_lemma =>
              have H' := Aside0.mk H
              clear H
              have hnb79 := NB327_338.out
              have hnc79 := NB338_327.out
              have hnb80 := NB327_346.out
              have hnc80 := NB346_327.out
              have hcz81_0 : wr.cell? ⟨gb327, 0, none⟩ = some (.slice A0_0 l0_0.length c0_0) := (blk_cell BK327.out 0).trans rfl
              have hcz81_1 : wr.cell? ⟨gb327, 1, none⟩ = some (.slice A0_1 l0_1.length c0_1) := (blk_cell BK327.out 1).trans rfl
              have hcz81_2 : wr.cell? ⟨gb327, 2, none⟩ = some (.slice A0_2 l0_2.length c0_2) := (blk_cell BK327.out 2).trans rfl
              have hcz81_3 : wr.cell? ⟨gb327, 3, none⟩ = some (.slice A0_3 l0_3.length c0_3) := (blk_cell BK327.out 3).trans rfl
              have hcz81_4 : wr.cell? ⟨gb327, 4, none⟩ = some (.int .i64 a0_4) := (blk_cell BK327.out 4).trans rfl
              have hcz81_5 : wr.cell? ⟨gb327, 5, none⟩ = some (.int .i64 a0_5) := (blk_cell BK327.out 5).trans rfl
              have hcz81_6 : wr.cell? ⟨gb327, 6, none⟩ = some (.int .i64 a0_6) := (blk_cell BK327.out 6).trans rfl
              have hfz81_0 := blk_frozen BK327.out 0
              have hfz81_1 := blk_frozen BK327.out 1
              have hfz81_2 := blk_frozen BK327.out 2
              have hfz81_3 := blk_frozen BK327.out 3
              have hfz81_4 := blk_frozen BK327.out 4
              have hfz81_5 := blk_frozen BK327.out 5
              have hfz81_6 := blk_frozen BK327.out 6
              iterate 7 (first | go_quiet (first | ((with_reducible refine gate_callee (f := 14) rfl ?_); refine goesL_ (some 99) rfl rfl Try.func14 (by kernel_rfl) rfl #[.agg #[.slice A0_0 l0_0.length c0_0, .slice A0_1 l0_1.length c0_1]] rfl (by (try simp only [List.map_toArray, List.map_cons, List.map_nil]); first | done | rfl | (simp only [List.length_drop, List.length_take]; rfl)) ?_; (with_reducible refine (athanorlaw04_right.calls k3 _ _ l0_0 _ _ l0_1 true _ ?side1 ?side2 ?side3 ?side4 A74.out).mono ?_); (case side1 => repeat (first|exact (Kd.C_below HR0_0.out HB.out) | with_reducible first|apply cA|apply cN|apply cD)); (case side2 => exact HC0_0.out); (case side3 => repeat (first|exact (Kd.C_below HR0_1.out HB.out) | with_reducible first|apply cA|apply cN|apply cD)); (case side4 => exact HC0_1.out); rintro e w82 ⟨rfl, hb⟩; refine ⟨_, rfl, ?_⟩; have n0_ := aM (Kd.R_below (by (with_reducible repeat (first|apply rA|apply rN|apply rD)); exact HO_339000.out) hb); have n1_ := aM (Kd.R_below (by (with_reducible repeat (first|apply rA|apply rN|apply rD)); exact HO_339001.out) hb); have n2_ := aM (Kd.R_below (by (with_reducible repeat (first|apply rA|apply rN|apply rD)); exact HO_347000.out) hb); have n3_ := aM (Kd.R_below (by (with_reducible repeat (first|apply rA|apply rN|apply rD)); exact HO_347001.out) hb); have n4_ := aM (blk_below (g := gb327) (o := .cells #[.slice A0_0 l0_0.length c0_0, .slice A0_1 l0_1.length c0_1, .slice A0_2 l0_2.length c0_2, .slice A0_3 l0_3.length c0_3, .int .i64 a0_4, .int .i64 a0_5, .int .i64 a0_6] 47 (0, 0)) (by (with_reducible repeat (first|apply kN|apply kD|apply kA)); exact BK327.out) hb); have n5_ := aM (blk_below (g := gb338) (o := .cells #[.slice Ao24 t331.length co24, .slice Ao27 t334.length co27] 26 (0, 0)) (by (with_reducible repeat (first|apply kN|apply kD|apply kA)); exact BK338.out) hb); have n6_ := aM (blk_below (g := gb346) (o := .cells #[.slice Ao31 t339.length co31, .slice Ao35 t342.length co35] 26 (0, 0)) (by (with_reducible repeat (first|apply kN|apply kD|apply kA)); exact BK346.out) hb); have n7_ := aM (below_step (by repeat (first | (with_reducible first|exact HB.out|apply bA|apply bN|apply bD|refine bS ?_ GE327.out|refine bS ?_ GE338.out|refine bS ?_ GE346.out)|exact HB.out)) hb); clear HO_339000; clear HO_339001; clear HO_347000; clear HO_347001; clear BK327; clear BK338; clear BK346; clear HB; have HO_339000 := n0_; have HO_339001 := n1_; have HO_347000 := n2_; have HO_347001 := n3_; have BK327 := n4_; have BK338 := n5_; have BK346 := n6_; have HB := n7_; clear n0_ n1_ n2_ n3_ n4_ n5_ n6_ n7_; (try clear hb); have hcz83_0 : w82.cell? ⟨gb327, 0, none⟩ = some (.slice A0_0 l0_0.length c0_0) := (blk_cell BK327.out 0).trans rfl; have hcz83_1 : w82.cell? ⟨gb327, 1, none⟩ = some (.slice A0_1 l0_1.length c0_1) := (blk_cell BK327.out 1).trans rfl; have hcz83_2 : w82.cell? ⟨gb327, 2, none⟩ = some (.slice A0_2 l0_2.length c0_2) := (blk_cell BK327.out 2).trans rfl; have hcz83_3 : w82.cell? ⟨gb327, 3, none⟩ = some (.slice A0_3 l0_3.length c0_3) := (blk_cell BK327.out 3).trans rfl; have hcz83_4 : w82.cell? ⟨gb327, 4, none⟩ = some (.int .i64 a0_4) := (blk_cell BK327.out 4).trans rfl; have hcz83_5 : w82.cell? ⟨gb327, 5, none⟩ = some (.int .i64 a0_5) := (blk_cell BK327.out 5).trans rfl; have hcz83_6 : w82.cell? ⟨gb327, 6, none⟩ = some (.int .i64 a0_6) := (blk_cell BK327.out 6).trans rfl; have hfz83_0 := blk_frozen BK327.out 0; have hfz83_1 := blk_frozen BK327.out 1; have hfz83_2 := blk_frozen BK327.out 2; have hfz83_3 := blk_frozen BK327.out 3; have hfz83_4 := blk_frozen BK327.out 4; have hfz83_5 := blk_frozen BK327.out 5; have hfz83_6 := blk_frozen BK327.out 6) | (go_at_call 14; (with_reducible refine (athanorlaw04_right.calls k3 _ _ l0_2 _ _ l0_3 true _ ?side1 ?side2 ?side3 ?side4 A76.out).mono ?_); (case side1 => repeat (first|exact (Kd.C_below HR0_2.out HB.out) | with_reducible first|apply cA|apply cN|apply cD)); (case side2 => exact HC0_2.out); (case side3 => repeat (first|exact (Kd.C_below HR0_3.out HB.out) | with_reducible first|apply cA|apply cN|apply cD)); (case side4 => exact HC0_3.out); rintro e w84 ⟨rfl, hb⟩; have n0_ := aM (Kd.R_below (by (with_reducible repeat (first|apply rA|apply rN|apply rD)); exact HO_339000.out) hb); have n1_ := aM (Kd.R_below (by (with_reducible repeat (first|apply rA|apply rN|apply rD)); exact HO_339001.out) hb); have n2_ := aM (Kd.R_below (by (with_reducible repeat (first|apply rA|apply rN|apply rD)); exact HO_347000.out) hb); have n3_ := aM (Kd.R_below (by (with_reducible repeat (first|apply rA|apply rN|apply rD)); exact HO_347001.out) hb); have n4_ := aM (blk_below (g := gb327) (o := .cells #[.slice A0_0 l0_0.length c0_0, .slice A0_1 l0_1.length c0_1, .slice A0_2 l0_2.length c0_2, .slice A0_3 l0_3.length c0_3, .int .i64 a0_4, .int .i64 a0_5, .int .i64 a0_6] 47 (0, 0)) (by (with_reducible repeat (first|apply kN|apply kD|apply kA)); exact BK327.out) hb); have n5_ := aM (blk_below (g := gb338) (o := .cells #[.slice Ao24 t331.length co24, .slice Ao27 t334.length co27] 26 (0, 0)) (by (with_reducible repeat (first|apply kN|apply kD|apply kA)); exact BK338.out) hb); have n6_ := aM (blk_below (g := gb346) (o := .cells #[.slice Ao31 t339.length co31, .slice Ao35 t342.length co35] 26 (0, 0)) (by (with_reducible repeat (first|apply kN|apply kD|apply kA)); exact BK346.out) hb); have n7_ := aM (below_step (by repeat (first | (with_reducible first|exact HB.out|apply bA|apply bN|apply bD|refine bS ?_ GE327.out|refine bS ?_ GE338.out|refine bS ?_ GE346.out)|exact HB.out)) hb); clear HO_339000; clear HO_339001; clear HO_347000; clear HO_347001; clear BK327; clear BK338; clear BK346; clear HB; have HO_339000 := n0_; have HO_339001 := n1_; have HO_347000 := n2_; have HO_347001 := n3_; have BK327 := n4_; have BK338 := n5_; have BK346 := n6_; have HB := n7_; clear n0_ n1_ n2_ n3_ n4_ n5_ n6_ n7_; (try clear hb); have hcz85_0 : w84.cell? ⟨gb327, 0, none⟩ = some (.slice A0_0 l0_0.length c0_0) := (blk_cell BK327.out 0).trans rfl; have hcz85_1 : w84.cell? ⟨gb327, 1, none⟩ = some (.slice A0_1 l0_1.length c0_1) := (blk_cell BK327.out 1).trans rfl; have hcz85_2 : w84.cell? ⟨gb327, 2, none⟩ = some (.slice A0_2 l0_2.length c0_2) := (blk_cell BK327.out 2).trans rfl; have hcz85_3 : w84.cell? ⟨gb327, 3, none⟩ = some (.slice A0_3 l0_3.length c0_3) := (blk_cell BK327.out 3).trans rfl; have hcz85_4 : w84.cell? ⟨gb327, 4, none⟩ = some (.int .i64 a0_4) := (blk_cell BK327.out 4).trans rfl; have hcz85_5 : w84.cell? ⟨gb327, 5, none⟩ = some (.int .i64 a0_5) := (blk_cell BK327.out 5).trans rfl; have hcz85_6 : w84.cell? ⟨gb327, 6, none⟩ = some (.int .i64 a0_6) := (blk_cell BK327.out 6).trans rfl; have hfz85_0 := blk_frozen BK327.out 0; have hfz85_1 := blk_frozen BK327.out 1; have hfz85_2 := blk_frozen BK327.out 2; have hfz85_3 := blk_frozen BK327.out 3; have hfz85_4 := blk_frozen BK327.out 4; have hfz85_5 := blk_frozen BK327.out 5; have hfz85_6 := blk_frozen BK327.out 6) | (go_at_call 26; (with_reducible refine (athanorref03_Same.calls k3 _ _ l0_0 _ _ l0_2 t355 _ ?side1 ?side2 ?side3 ?side4 A78.out).mono ?_); (case side1 => repeat (first|exact (Kd.C_below HR0_0.out HB.out) | with_reducible first|apply cA|apply cN|apply cD)); (case side2 => exact HC0_0.out); (case side3 => repeat (first|exact (Kd.C_below HR0_2.out HB.out) | with_reducible first|apply cA|apply cN|apply cD)); (case side4 => exact HC0_2.out); rintro e w' ⟨rfl, ⟨nd, rfl⟩⟩; (try first|exact ⟨rfl, _, World.drewN_drewN _ _ _⟩|exact ⟨rfl, _, Eq.trans (World.drewN_drewN _ _ _) (congrArg (World.drewN _) (Nat.add_assoc _ _ _))⟩))) | try go_wp2_with (first | ((with_reducible refine gate_callee (f := 14) rfl ?_); refine goesL_ (some 99) rfl rfl Try.func14 (by kernel_rfl) rfl #[.agg #[.slice A0_0 l0_0.length c0_0, .slice A0_1 l0_1.length c0_1]] rfl (by (try simp only [List.map_toArray, List.map_cons, List.map_nil]); first | done | rfl | (simp only [List.length_drop, List.length_take]; rfl)) ?_; (with_reducible refine (athanorlaw04_right.calls k3 _ _ l0_0 _ _ l0_1 true _ ?side1 ?side2 ?side3 ?side4 A74.out).mono ?_); (case side1 => repeat (first|exact (Kd.C_below HR0_0.out HB.out) | with_reducible first|apply cA|apply cN|apply cD)); (case side2 => exact HC0_0.out); (case side3 => repeat (first|exact (Kd.C_below HR0_1.out HB.out) | with_reducible first|apply cA|apply cN|apply cD)); (case side4 => exact HC0_1.out); rintro e w82 ⟨rfl, hb⟩; refine ⟨_, rfl, ?_⟩; have n0_ := aM (Kd.R_below (by (with_reducible repeat (first|apply rA|apply rN|apply rD)); exact HO_339000.out) hb); have n1_ := aM (Kd.R_below (by (with_reducible repeat (first|apply rA|apply rN|apply rD)); exact HO_339001.out) hb); have n2_ := aM (Kd.R_below (by (with_reducible repeat (first|apply rA|apply rN|apply rD)); exact HO_347000.out) hb); have n3_ := aM (Kd.R_below (by (with_reducible repeat (first|apply rA|apply rN|apply rD)); exact HO_347001.out) hb); have n4_ := aM (blk_below (g := gb327) (o := .cells #[.slice A0_0 l0_0.length c0_0, .slice A0_1 l0_1.length c0_1, .slice A0_2 l0_2.length c0_2, .slice A0_3 l0_3.length c0_3, .int .i64 a0_4, .int .i64 a0_5, .int .i64 a0_6] 47 (0, 0)) (by (with_reducible repeat (first|apply kN|apply kD|apply kA)); exact BK327.out) hb); have n5_ := aM (blk_below (g := gb338) (o := .cells #[.slice Ao24 t331.length co24, .slice Ao27 t334.length co27] 26 (0, 0)) (by (with_reducible repeat (first|apply kN|apply kD|apply kA)); exact BK338.out) hb); have n6_ := aM (blk_below (g := gb346) (o := .cells #[.slice Ao31 t339.length co31, .slice Ao35 t342.length co35] 26 (0, 0)) (by (with_reducible repeat (first|apply kN|apply kD|apply kA)); exact BK346.out) hb); have n7_ := aM (below_step (by repeat (first | (with_reducible first|exact HB.out|apply bA|apply bN|apply bD|refine bS ?_ GE327.out|refine bS ?_ GE338.out|refine bS ?_ GE346.out)|exact HB.out)) hb); clear HO_339000; clear HO_339001; clear HO_347000; clear HO_347001; clear BK327; clear BK338; clear BK346; clear HB; have HO_339000 := n0_; have HO_339001 := n1_; have HO_347000 := n2_; have HO_347001 := n3_; have BK327 := n4_; have BK338 := n5_; have BK346 := n6_; have HB := n7_; clear n0_ n1_ n2_ n3_ n4_ n5_ n6_ n7_; (try clear hb); have hcz83_0 : w82.cell? ⟨gb327, 0, none⟩ = some (.slice A0_0 l0_0.length c0_0) := (blk_cell BK327.out 0).trans rfl; have hcz83_1 : w82.cell? ⟨gb327, 1, none⟩ = some (.slice A0_1 l0_1.length c0_1) := (blk_cell BK327.out 1).trans rfl; have hcz83_2 : w82.cell? ⟨gb327, 2, none⟩ = some (.slice A0_2 l0_2.length c0_2) := (blk_cell BK327.out 2).trans rfl; have hcz83_3 : w82.cell? ⟨gb327, 3, none⟩ = some (.slice A0_3 l0_3.length c0_3) := (blk_cell BK327.out 3).trans rfl; have hcz83_4 : w82.cell? ⟨gb327, 4, none⟩ = some (.int .i64 a0_4) := (blk_cell BK327.out 4).trans rfl; have hcz83_5 : w82.cell? ⟨gb327, 5, none⟩ = some (.int .i64 a0_5) := (blk_cell BK327.out 5).trans rfl; have hcz83_6 : w82.cell? ⟨gb327, 6, none⟩ = some (.int .i64 a0_6) := (blk_cell BK327.out 6).trans rfl; have hfz83_0 := blk_frozen BK327.out 0; have hfz83_1 := blk_frozen BK327.out 1; have hfz83_2 := blk_frozen BK327.out 2; have hfz83_3 := blk_frozen BK327.out 3; have hfz83_4 := blk_frozen BK327.out 4; have hfz83_5 := blk_frozen BK327.out 5; have hfz83_6 := blk_frozen BK327.out 6) | (go_at_call 14; (with_reducible refine (athanorlaw04_right.calls k3 _ _ l0_2 _ _ l0_3 true _ ?side1 ?side2 ?side3 ?side4 A76.out).mono ?_); (case side1 => repeat (first|exact (Kd.C_below HR0_2.out HB.out) | with_reducible first|apply cA|apply cN|apply cD)); (case side2 => exact HC0_2.out); (case side3 => repeat (first|exact (Kd.C_below HR0_3.out HB.out) | with_reducible first|apply cA|apply cN|apply cD)); (case side4 => exact HC0_3.out); rintro e w84 ⟨rfl, hb⟩; have n0_ := aM (Kd.R_below (by (with_reducible repeat (first|apply rA|apply rN|apply rD)); exact HO_339000.out) hb); have n1_ := aM (Kd.R_below (by (with_reducible repeat (first|apply rA|apply rN|apply rD)); exact HO_339001.out) hb); have n2_ := aM (Kd.R_below (by (with_reducible repeat (first|apply rA|apply rN|apply rD)); exact HO_347000.out) hb); have n3_ := aM (Kd.R_below (by (with_reducible repeat (first|apply rA|apply rN|apply rD)); exact HO_347001.out) hb); have n4_ := aM (blk_below (g := gb327) (o := .cells #[.slice A0_0 l0_0.length c0_0, .slice A0_1 l0_1.length c0_1, .slice A0_2 l0_2.length c0_2, .slice A0_3 l0_3.length c0_3, .int .i64 a0_4, .int .i64 a0_5, .int .i64 a0_6] 47 (0, 0)) (by (with_reducible repeat (first|apply kN|apply kD|apply kA)); exact BK327.out) hb); have n5_ := aM (blk_below (g := gb338) (o := .cells #[.slice Ao24 t331.length co24, .slice Ao27 t334.length co27] 26 (0, 0)) (by (with_reducible repeat (first|apply kN|apply kD|apply kA)); exact BK338.out) hb); have n6_ := aM (blk_below (g := gb346) (o := .cells #[.slice Ao31 t339.length co31, .slice Ao35 t342.length co35] 26 (0, 0)) (by (with_reducible repeat (first|apply kN|apply kD|apply kA)); exact BK346.out) hb); have n7_ := aM (below_step (by repeat (first | (with_reducible first|exact HB.out|apply bA|apply bN|apply bD|refine bS ?_ GE327.out|refine bS ?_ GE338.out|refine bS ?_ GE346.out)|exact HB.out)) hb); clear HO_339000; clear HO_339001; clear HO_347000; clear HO_347001; clear BK327; clear BK338; clear BK346; clear HB; have HO_339000 := n0_; have HO_339001 := n1_; have HO_347000 := n2_; have HO_347001 := n3_; have BK327 := n4_; have BK338 := n5_; have BK346 := n6_; have HB := n7_; clear n0_ n1_ n2_ n3_ n4_ n5_ n6_ n7_; (try clear hb); have hcz85_0 : w84.cell? ⟨gb327, 0, none⟩ = some (.slice A0_0 l0_0.length c0_0) := (blk_cell BK327.out 0).trans rfl; have hcz85_1 : w84.cell? ⟨gb327, 1, none⟩ = some (.slice A0_1 l0_1.length c0_1) := (blk_cell BK327.out 1).trans rfl; have hcz85_2 : w84.cell? ⟨gb327, 2, none⟩ = some (.slice A0_2 l0_2.length c0_2) := (blk_cell BK327.out 2).trans rfl; have hcz85_3 : w84.cell? ⟨gb327, 3, none⟩ = some (.slice A0_3 l0_3.length c0_3) := (blk_cell BK327.out 3).trans rfl; have hcz85_4 : w84.cell? ⟨gb327, 4, none⟩ = some (.int .i64 a0_4) := (blk_cell BK327.out 4).trans rfl; have hcz85_5 : w84.cell? ⟨gb327, 5, none⟩ = some (.int .i64 a0_5) := (blk_cell BK327.out 5).trans rfl; have hcz85_6 : w84.cell? ⟨gb327, 6, none⟩ = some (.int .i64 a0_6) := (blk_cell BK327.out 6).trans rfl; have hfz85_0 := blk_frozen BK327.out 0; have hfz85_1 := blk_frozen BK327.out 1; have hfz85_2 := blk_frozen BK327.out 2; have hfz85_3 := blk_frozen BK327.out 3; have hfz85_4 := blk_frozen BK327.out 4; have hfz85_5 := blk_frozen BK327.out 5; have hfz85_6 := blk_frozen BK327.out 6) | (go_at_call 26; (with_reducible refine (athanorref03_Same.calls k3 _ _ l0_0 _ _ l0_2 t355 _ ?side1 ?side2 ?side3 ?side4 A78.out).mono ?_); (case side1 => repeat (first|exact (Kd.C_below HR0_0.out HB.out) | with_reducible first|apply cA|apply cN|apply cD)); (case side2 => exact HC0_0.out); (case side3 => repeat (first|exact (Kd.C_below HR0_2.out HB.out) | with_reducible first|apply cA|apply cN|apply cD)); (case side4 => exact HC0_2.out); rintro e w' ⟨rfl, ⟨nd, rfl⟩⟩; (try first|exact ⟨rfl, _, World.drewN_drewN _ _ _⟩|exact ⟨rfl, _, Eq.trans (World.drewN_drewN _ _ _) (congrArg (World.drewN _) (Nat.add_assoc _ _ _))⟩))))
              go_meet
              case rel => exact ⟨_, (!t355), (by first | rfl | (simp; done) | (simp [*]; done)), H', ⟨by have := HJ2.out; have := HJ19.out; have := HK3.out; first | omega|exact Nat.le_refl _⟩, ⟨by (with_reducible repeat (first|apply rA|apply rN|apply rD)); exact HO_339000.out⟩, ⟨by (with_reducible repeat (first|apply rA|apply rN|apply rD)); exact HO_339001.out⟩, ⟨by (with_reducible repeat (first|apply rA|apply rN|apply rD)); exact HO_347000.out⟩, ⟨by (with_reducible repeat (first|apply rA|apply rN|apply rD)); exact HO_347001.out⟩, ⟨by (with_reducible repeat (first|apply kN|apply kD|apply kA)); exact BK327.out⟩, ⟨by (with_reducible repeat (first|apply kN|apply kD|apply kA)); exact BK338.out⟩, ⟨by (with_reducible repeat (first|apply kN|apply kD|apply kA)); exact BK346.out⟩, ⟨by repeat (first | (with_reducible first|exact HB.out|apply bA|apply bN|apply bD|refine bS ?_ GE327.out|refine bS ?_ GE338.out|refine bS ?_ GE346.out)|exact HB.out)⟩⟩
            ·replace c77 := Bool.eq_false_iff.mpr c77
             subst c77
             have H1 : (athanorlaw04_TensorSums.j3 k3 t337 t347 t348 true l0_0 l0_1 l0_2 l0_3 a0_4 a0_5 a0_6 t331 t334 t339 t342) = some r := by rw [if_neg (show ¬ (false = true) by decide)] at H; exact H
             clear H
             have H := H1
             clear H1
             as_aux_lemma =>
              have H' := Aside0.mk H
              clear H
              have hnb86 := NB327_338.out
              have hnc86 := NB338_327.out
              have hnb87 := NB327_346.out
              have hnc87 := NB346_327.out
              have hcz88_0 : wr.cell? ⟨gb327, 0, none⟩ = some (.slice A0_0 l0_0.length c0_0) := (blk_cell BK327.out 0).trans rfl
              have hcz88_1 : wr.cell? ⟨gb327, 1, none⟩ = some (.slice A0_1 l0_1.length c0_1) := (blk_cell BK327.out 1).trans rfl
              have hcz88_2 : wr.cell? ⟨gb327, 2, none⟩ = some (.slice A0_2 l0_2.length c0_2) := (blk_cell BK327.out 2).trans rfl
              have hcz88_3 : wr.cell? ⟨gb327, 3, none⟩ = some (.slice A0_3 l0_3.length c0_3) := (blk_cell BK327.out 3).trans rfl
              have hcz88_4 : wr.cell? ⟨gb327, 4, none⟩ = some (.int .i64 a0_4) := (blk_cell BK327.out 4).trans rfl
              have hcz88_5 : wr.cell? ⟨gb327, 5, none⟩ = some (.int .i64 a0_5) := (blk_cell BK327.out 5).trans rfl
              have hcz88_6 : wr.cell? ⟨gb327, 6, none⟩ = some (.int .i64 a0_6) := (blk_cell BK327.out 6).trans rfl
              have hfz88_0 := blk_frozen BK327.out 0
              have hfz88_1 := blk_frozen BK327.out 1
              have hfz88_2 := blk_frozen BK327.out 2
              have hfz88_3 := blk_frozen BK327.out 3
              have hfz88_4 := blk_frozen BK327.out 4
              have hfz88_5 := blk_frozen BK327.out 5
              have hfz88_6 := blk_frozen BK327.out 6
              iterate 7 (first | go_quiet (first | ((with_reducible refine gate_callee (f := 14) rfl ?_); refine goesL_ (some 99) rfl rfl Try.func14 (by kernel_rfl) rfl #[.agg #[.slice A0_0 l0_0.length c0_0, .slice A0_1 l0_1.length c0_1]] rfl (by (try simp only [List.map_toArray, List.map_cons, List.map_nil]); first | done | rfl | (simp only [List.length_drop, List.length_take]; rfl)) ?_; (with_reducible refine (athanorlaw04_right.calls k3 _ _ l0_0 _ _ l0_1 true _ ?side1 ?side2 ?side3 ?side4 A74.out).mono ?_); (case side1 => repeat (first|exact (Kd.C_below HR0_0.out HB.out) | with_reducible first|apply cA|apply cN|apply cD)); (case side2 => exact HC0_0.out); (case side3 => repeat (first|exact (Kd.C_below HR0_1.out HB.out) | with_reducible first|apply cA|apply cN|apply cD)); (case side4 => exact HC0_1.out); rintro e w89 ⟨rfl, hb⟩; refine ⟨_, rfl, ?_⟩; have n0_ := aM (Kd.R_below (by (with_reducible repeat (first|apply rA|apply rN|apply rD)); exact HO_339000.out) hb); have n1_ := aM (Kd.R_below (by (with_reducible repeat (first|apply rA|apply rN|apply rD)); exact HO_339001.out) hb); have n2_ := aM (Kd.R_below (by (with_reducible repeat (first|apply rA|apply rN|apply rD)); exact HO_347000.out) hb); have n3_ := aM (Kd.R_below (by (with_reducible repeat (first|apply rA|apply rN|apply rD)); exact HO_347001.out) hb); have n4_ := aM (blk_below (g := gb327) (o := .cells #[.slice A0_0 l0_0.length c0_0, .slice A0_1 l0_1.length c0_1, .slice A0_2 l0_2.length c0_2, .slice A0_3 l0_3.length c0_3, .int .i64 a0_4, .int .i64 a0_5, .int .i64 a0_6] 47 (0, 0)) (by (with_reducible repeat (first|apply kN|apply kD|apply kA)); exact BK327.out) hb); have n5_ := aM (blk_below (g := gb338) (o := .cells #[.slice Ao24 t331.length co24, .slice Ao27 t334.length co27] 26 (0, 0)) (by (with_reducible repeat (first|apply kN|apply kD|apply kA)); exact BK338.out) hb); have n6_ := aM (blk_below (g := gb346) (o := .cells #[.slice Ao31 t339.length co31, .slice Ao35 t342.length co35] 26 (0, 0)) (by (with_reducible repeat (first|apply kN|apply kD|apply kA)); exact BK346.out) hb); have n7_ := aM (below_step (by repeat (first | (with_reducible first|exact HB.out|apply bA|apply bN|apply bD|refine bS ?_ GE327.out|refine bS ?_ GE338.out|refine bS ?_ GE346.out)|exact HB.out)) hb); clear HO_339000; clear HO_339001; clear HO_347000; clear HO_347001; clear BK327; clear BK338; clear BK346; clear HB; have HO_339000 := n0_; have HO_339001 := n1_; have HO_347000 := n2_; have HO_347001 := n3_; have BK327 := n4_; have BK338 := n5_; have BK346 := n6_; have HB := n7_; clear n0_ n1_ n2_ n3_ n4_ n5_ n6_ n7_; (try clear hb); have hcz90_0 : w89.cell? ⟨gb327, 0, none⟩ = some (.slice A0_0 l0_0.length c0_0) := (blk_cell BK327.out 0).trans rfl; have hcz90_1 : w89.cell? ⟨gb327, 1, none⟩ = some (.slice A0_1 l0_1.length c0_1) := (blk_cell BK327.out 1).trans rfl; have hcz90_2 : w89.cell? ⟨gb327, 2, none⟩ = some (.slice A0_2 l0_2.length c0_2) := (blk_cell BK327.out 2).trans rfl; have hcz90_3 : w89.cell? ⟨gb327, 3, none⟩ = some (.slice A0_3 l0_3.length c0_3) := (blk_cell BK327.out 3).trans rfl; have hcz90_4 : w89.cell? ⟨gb327, 4, none⟩ = some (.int .i64 a0_4) := (blk_cell BK327.out 4).trans rfl; have hcz90_5 : w89.cell? ⟨gb327, 5, none⟩ = some (.int .i64 a0_5) := (blk_cell BK327.out 5).trans rfl; have hcz90_6 : w89.cell? ⟨gb327, 6, none⟩ = some (.int .i64 a0_6) := (blk_cell BK327.out 6).trans rfl; have hfz90_0 := blk_frozen BK327.out 0; have hfz90_1 := blk_frozen BK327.out 1; have hfz90_2 := blk_frozen BK327.out 2; have hfz90_3 := blk_frozen BK327.out 3; have hfz90_4 := blk_frozen BK327.out 4; have hfz90_5 := blk_frozen BK327.out 5; have hfz90_6 := blk_frozen BK327.out 6) | (go_at_call 14; (with_reducible refine (athanorlaw04_right.calls k3 _ _ l0_2 _ _ l0_3 false _ ?side1 ?side2 ?side3 ?side4 A76.out).mono ?_); (case side1 => repeat (first|exact (Kd.C_below HR0_2.out HB.out) | with_reducible first|apply cA|apply cN|apply cD)); (case side2 => exact HC0_2.out); (case side3 => repeat (first|exact (Kd.C_below HR0_3.out HB.out) | with_reducible first|apply cA|apply cN|apply cD)); (case side4 => exact HC0_3.out); rintro e w91 ⟨rfl, hb⟩; have n0_ := aM (Kd.R_below (by (with_reducible repeat (first|apply rA|apply rN|apply rD)); exact HO_339000.out) hb); have n1_ := aM (Kd.R_below (by (with_reducible repeat (first|apply rA|apply rN|apply rD)); exact HO_339001.out) hb); have n2_ := aM (Kd.R_below (by (with_reducible repeat (first|apply rA|apply rN|apply rD)); exact HO_347000.out) hb); have n3_ := aM (Kd.R_below (by (with_reducible repeat (first|apply rA|apply rN|apply rD)); exact HO_347001.out) hb); have n4_ := aM (blk_below (g := gb327) (o := .cells #[.slice A0_0 l0_0.length c0_0, .slice A0_1 l0_1.length c0_1, .slice A0_2 l0_2.length c0_2, .slice A0_3 l0_3.length c0_3, .int .i64 a0_4, .int .i64 a0_5, .int .i64 a0_6] 47 (0, 0)) (by (with_reducible repeat (first|apply kN|apply kD|apply kA)); exact BK327.out) hb); have n5_ := aM (blk_below (g := gb338) (o := .cells #[.slice Ao24 t331.length co24, .slice Ao27 t334.length co27] 26 (0, 0)) (by (with_reducible repeat (first|apply kN|apply kD|apply kA)); exact BK338.out) hb); have n6_ := aM (blk_below (g := gb346) (o := .cells #[.slice Ao31 t339.length co31, .slice Ao35 t342.length co35] 26 (0, 0)) (by (with_reducible repeat (first|apply kN|apply kD|apply kA)); exact BK346.out) hb); have n7_ := aM (below_step (by repeat (first | (with_reducible first|exact HB.out|apply bA|apply bN|apply bD|refine bS ?_ GE327.out|refine bS ?_ GE338.out|refine bS ?_ GE346.out)|exact HB.out)) hb); clear HO_339000; clear HO_339001; clear HO_347000; clear HO_347001; clear BK327; clear BK338; clear BK346; clear HB; have HO_339000 := n0_; have HO_339001 := n1_; have HO_347000 := n2_; have HO_347001 := n3_; have BK327 := n4_; have BK338 := n5_; have BK346 := n6_; have HB := n7_; clear n0_ n1_ n2_ n3_ n4_ n5_ n6_ n7_; (try clear hb))) | try go_wp2_with (first | ((with_reducible refine gate_callee (f := 14) rfl ?_); refine goesL_ (some 99) rfl rfl Try.func14 (by kernel_rfl) rfl #[.agg #[.slice A0_0 l0_0.length c0_0, .slice A0_1 l0_1.length c0_1]] rfl (by (try simp only [List.map_toArray, List.map_cons, List.map_nil]); first | done | rfl | (simp only [List.length_drop, List.length_take]; rfl)) ?_; (with_reducible refine (athanorlaw04_right.calls k3 _ _ l0_0 _ _ l0_1 true _ ?side1 ?side2 ?side3 ?side4 A74.out).mono ?_); (case side1 => repeat (first|exact (Kd.C_below HR0_0.out HB.out) | with_reducible first|apply cA|apply cN|apply cD)); (case side2 => exact HC0_0.out); (case side3 => repeat (first|exact (Kd.C_below HR0_1.out HB.out) | with_reducible first|apply cA|apply cN|apply cD)); (case side4 => exact HC0_1.out); rintro e w89 ⟨rfl, hb⟩; refine ⟨_, rfl, ?_⟩; have n0_ := aM (Kd.R_below (by (with_reducible repeat (first|apply rA|apply rN|apply rD)); exact HO_339000.out) hb); have n1_ := aM (Kd.R_below (by (with_reducible repeat (first|apply rA|apply rN|apply rD)); exact HO_339001.out) hb); have n2_ := aM (Kd.R_below (by (with_reducible repeat (first|apply rA|apply rN|apply rD)); exact HO_347000.out) hb); have n3_ := aM (Kd.R_below (by (with_reducible repeat (first|apply rA|apply rN|apply rD)); exact HO_347001.out) hb); have n4_ := aM (blk_below (g := gb327) (o := .cells #[.slice A0_0 l0_0.length c0_0, .slice A0_1 l0_1.length c0_1, .slice A0_2 l0_2.length c0_2, .slice A0_3 l0_3.length c0_3, .int .i64 a0_4, .int .i64 a0_5, .int .i64 a0_6] 47 (0, 0)) (by (with_reducible repeat (first|apply kN|apply kD|apply kA)); exact BK327.out) hb); have n5_ := aM (blk_below (g := gb338) (o := .cells #[.slice Ao24 t331.length co24, .slice Ao27 t334.length co27] 26 (0, 0)) (by (with_reducible repeat (first|apply kN|apply kD|apply kA)); exact BK338.out) hb); have n6_ := aM (blk_below (g := gb346) (o := .cells #[.slice Ao31 t339.length co31, .slice Ao35 t342.length co35] 26 (0, 0)) (by (with_reducible repeat (first|apply kN|apply kD|apply kA)); exact BK346.out) hb); have n7_ := aM (below_step (by repeat (first | (with_reducible first|exact HB.out|apply bA|apply bN|apply bD|refine bS ?_ GE327.out|refine bS ?_ GE338.out|refine bS ?_ GE346.out)|exact HB.out)) hb); clear HO_339000; clear HO_339001; clear HO_347000; clear HO_347001; clear BK327; clear BK338; clear BK346; clear HB; have HO_339000 := n0_; have HO_339001 := n1_; have HO_347000 := n2_; have HO_347001 := n3_; have BK327 := n4_; have BK338 := n5_; have BK346 := n6_; have HB := n7_; clear n0_ n1_ n2_ n3_ n4_ n5_ n6_ n7_; (try clear hb); have hcz90_0 : w89.cell? ⟨gb327, 0, none⟩ = some (.slice A0_0 l0_0.length c0_0) := (blk_cell BK327.out 0).trans rfl; have hcz90_1 : w89.cell? ⟨gb327, 1, none⟩ = some (.slice A0_1 l0_1.length c0_1) := (blk_cell BK327.out 1).trans rfl; have hcz90_2 : w89.cell? ⟨gb327, 2, none⟩ = some (.slice A0_2 l0_2.length c0_2) := (blk_cell BK327.out 2).trans rfl; have hcz90_3 : w89.cell? ⟨gb327, 3, none⟩ = some (.slice A0_3 l0_3.length c0_3) := (blk_cell BK327.out 3).trans rfl; have hcz90_4 : w89.cell? ⟨gb327, 4, none⟩ = some (.int .i64 a0_4) := (blk_cell BK327.out 4).trans rfl; have hcz90_5 : w89.cell? ⟨gb327, 5, none⟩ = some (.int .i64 a0_5) := (blk_cell BK327.out 5).trans rfl; have hcz90_6 : w89.cell? ⟨gb327, 6, none⟩ = some (.int .i64 a0_6) := (blk_cell BK327.out 6).trans rfl; have hfz90_0 := blk_frozen BK327.out 0; have hfz90_1 := blk_frozen BK327.out 1; have hfz90_2 := blk_frozen BK327.out 2; have hfz90_3 := blk_frozen BK327.out 3; have hfz90_4 := blk_frozen BK327.out 4; have hfz90_5 := blk_frozen BK327.out 5; have hfz90_6 := blk_frozen BK327.out 6) | (go_at_call 14; (with_reducible refine (athanorlaw04_right.calls k3 _ _ l0_2 _ _ l0_3 false _ ?side1 ?side2 ?side3 ?side4 A76.out).mono ?_); (case side1 => repeat (first|exact (Kd.C_below HR0_2.out HB.out) | with_reducible first|apply cA|apply cN|apply cD)); (case side2 => exact HC0_2.out); (case side3 => repeat (first|exact (Kd.C_below HR0_3.out HB.out) | with_reducible first|apply cA|apply cN|apply cD)); (case side4 => exact HC0_3.out); rintro e w91 ⟨rfl, hb⟩; have n0_ := aM (Kd.R_below (by (with_reducible repeat (first|apply rA|apply rN|apply rD)); exact HO_339000.out) hb); have n1_ := aM (Kd.R_below (by (with_reducible repeat (first|apply rA|apply rN|apply rD)); exact HO_339001.out) hb); have n2_ := aM (Kd.R_below (by (with_reducible repeat (first|apply rA|apply rN|apply rD)); exact HO_347000.out) hb); have n3_ := aM (Kd.R_below (by (with_reducible repeat (first|apply rA|apply rN|apply rD)); exact HO_347001.out) hb); have n4_ := aM (blk_below (g := gb327) (o := .cells #[.slice A0_0 l0_0.length c0_0, .slice A0_1 l0_1.length c0_1, .slice A0_2 l0_2.length c0_2, .slice A0_3 l0_3.length c0_3, .int .i64 a0_4, .int .i64 a0_5, .int .i64 a0_6] 47 (0, 0)) (by (with_reducible repeat (first|apply kN|apply kD|apply kA)); exact BK327.out) hb); have n5_ := aM (blk_below (g := gb338) (o := .cells #[.slice Ao24 t331.length co24, .slice Ao27 t334.length co27] 26 (0, 0)) (by (with_reducible repeat (first|apply kN|apply kD|apply kA)); exact BK338.out) hb); have n6_ := aM (blk_below (g := gb346) (o := .cells #[.slice Ao31 t339.length co31, .slice Ao35 t342.length co35] 26 (0, 0)) (by (with_reducible repeat (first|apply kN|apply kD|apply kA)); exact BK346.out) hb); have n7_ := aM (below_step (by repeat (first | (with_reducible first|exact HB.out|apply bA|apply bN|apply bD|refine bS ?_ GE327.out|refine bS ?_ GE338.out|refine bS ?_ GE346.out)|exact HB.out)) hb); clear HO_339000; clear HO_339001; clear HO_347000; clear HO_347001; clear BK327; clear BK338; clear BK346; clear HB; have HO_339000 := n0_; have HO_339001 := n1_; have HO_347000 := n2_; have HO_347001 := n3_; have BK327 := n4_; have BK338 := n5_; have BK346 := n6_; have HB := n7_; clear n0_ n1_ n2_ n3_ n4_ n5_ n6_ n7_; (try clear hb))))
              go_meet
              case rel => exact ⟨_, (true), (by first | rfl | (simp; done) | (simp [*]; done)), H', ⟨by have := HJ2.out; have := HJ19.out; have := HK3.out; first | omega|exact Nat.le_refl _⟩, ⟨by (with_reducible repeat (first|apply rA|apply rN|apply rD)); exact HO_339000.out⟩, ⟨by (with_reducible repeat (first|apply rA|apply rN|apply rD)); exact HO_339001.out⟩, ⟨by (with_reducible repeat (first|apply rA|apply rN|apply rD)); exact HO_347000.out⟩, ⟨by (with_reducible repeat (first|apply rA|apply rN|apply rD)); exact HO_347001.out⟩, ⟨by (with_reducible repeat (first|apply kN|apply kD|apply kA)); exact BK327.out⟩, ⟨by (with_reducible repeat (first|apply kN|apply kD|apply kA)); exact BK338.out⟩, ⟨by (with_reducible repeat (first|apply kN|apply kD|apply kA)); exact BK346.out⟩, ⟨by repeat (first | (with_reducible first|exact HB.out|apply bA|apply bN|apply bD|refine bS ?_ GE327.out|refine bS ?_ GE338.out|refine bS ?_ GE346.out)|exact HB.out)⟩⟩
           ·replace c75 := Bool.eq_false_iff.mpr c75
            subst c75
            have H1 : (athanorlaw04_TensorSums.j3 k3 t337 t347 t348 true l0_0 l0_1 l0_2 l0_3 a0_4 a0_5 a0_6 t331 t334 t339 t342) = some r := by rw [if_neg (show ¬ (false = true) by decide)] at H; exact H
            clear H
            have H := H1
            clear H1
            as_aux_lemma =>
             have H' := Aside0.mk H
             clear H
             have hnb92 := NB327_338.out
             have hnc92 := NB338_327.out
             have hnb93 := NB327_346.out
             have hnc93 := NB346_327.out
             have hcz94_0 : wr.cell? ⟨gb327, 0, none⟩ = some (.slice A0_0 l0_0.length c0_0) := (blk_cell BK327.out 0).trans rfl
             have hcz94_1 : wr.cell? ⟨gb327, 1, none⟩ = some (.slice A0_1 l0_1.length c0_1) := (blk_cell BK327.out 1).trans rfl
             have hcz94_2 : wr.cell? ⟨gb327, 2, none⟩ = some (.slice A0_2 l0_2.length c0_2) := (blk_cell BK327.out 2).trans rfl
             have hcz94_3 : wr.cell? ⟨gb327, 3, none⟩ = some (.slice A0_3 l0_3.length c0_3) := (blk_cell BK327.out 3).trans rfl
             have hcz94_4 : wr.cell? ⟨gb327, 4, none⟩ = some (.int .i64 a0_4) := (blk_cell BK327.out 4).trans rfl
             have hcz94_5 : wr.cell? ⟨gb327, 5, none⟩ = some (.int .i64 a0_5) := (blk_cell BK327.out 5).trans rfl
             have hcz94_6 : wr.cell? ⟨gb327, 6, none⟩ = some (.int .i64 a0_6) := (blk_cell BK327.out 6).trans rfl
             have hfz94_0 := blk_frozen BK327.out 0
             have hfz94_1 := blk_frozen BK327.out 1
             have hfz94_2 := blk_frozen BK327.out 2
             have hfz94_3 := blk_frozen BK327.out 3
             have hfz94_4 := blk_frozen BK327.out 4
             have hfz94_5 := blk_frozen BK327.out 5
             have hfz94_6 := blk_frozen BK327.out 6
             iterate 7 (first | go_quiet (first | ((with_reducible refine gate_callee (f := 14) rfl ?_); refine goesL_ (some 99) rfl rfl Try.func14 (by kernel_rfl) rfl #[.agg #[.slice A0_0 l0_0.length c0_0, .slice A0_1 l0_1.length c0_1]] rfl (by (try simp only [List.map_toArray, List.map_cons, List.map_nil]); first | done | rfl | (simp only [List.length_drop, List.length_take]; rfl)) ?_; (with_reducible refine (athanorlaw04_right.calls k3 _ _ l0_0 _ _ l0_1 false _ ?side1 ?side2 ?side3 ?side4 A74.out).mono ?_); (case side1 => repeat (first|exact (Kd.C_below HR0_0.out HB.out) | with_reducible first|apply cA|apply cN|apply cD)); (case side2 => exact HC0_0.out); (case side3 => repeat (first|exact (Kd.C_below HR0_1.out HB.out) | with_reducible first|apply cA|apply cN|apply cD)); (case side4 => exact HC0_1.out); rintro e w95 ⟨rfl, hb⟩; refine ⟨_, rfl, ?_⟩; have n0_ := aM (Kd.R_below (by (with_reducible repeat (first|apply rA|apply rN|apply rD)); exact HO_339000.out) hb); have n1_ := aM (Kd.R_below (by (with_reducible repeat (first|apply rA|apply rN|apply rD)); exact HO_339001.out) hb); have n2_ := aM (Kd.R_below (by (with_reducible repeat (first|apply rA|apply rN|apply rD)); exact HO_347000.out) hb); have n3_ := aM (Kd.R_below (by (with_reducible repeat (first|apply rA|apply rN|apply rD)); exact HO_347001.out) hb); have n4_ := aM (blk_below (g := gb327) (o := .cells #[.slice A0_0 l0_0.length c0_0, .slice A0_1 l0_1.length c0_1, .slice A0_2 l0_2.length c0_2, .slice A0_3 l0_3.length c0_3, .int .i64 a0_4, .int .i64 a0_5, .int .i64 a0_6] 47 (0, 0)) (by (with_reducible repeat (first|apply kN|apply kD|apply kA)); exact BK327.out) hb); have n5_ := aM (blk_below (g := gb338) (o := .cells #[.slice Ao24 t331.length co24, .slice Ao27 t334.length co27] 26 (0, 0)) (by (with_reducible repeat (first|apply kN|apply kD|apply kA)); exact BK338.out) hb); have n6_ := aM (blk_below (g := gb346) (o := .cells #[.slice Ao31 t339.length co31, .slice Ao35 t342.length co35] 26 (0, 0)) (by (with_reducible repeat (first|apply kN|apply kD|apply kA)); exact BK346.out) hb); have n7_ := aM (below_step (by repeat (first | (with_reducible first|exact HB.out|apply bA|apply bN|apply bD|refine bS ?_ GE327.out|refine bS ?_ GE338.out|refine bS ?_ GE346.out)|exact HB.out)) hb); clear HO_339000; clear HO_339001; clear HO_347000; clear HO_347001; clear BK327; clear BK338; clear BK346; clear HB; have HO_339000 := n0_; have HO_339001 := n1_; have HO_347000 := n2_; have HO_347001 := n3_; have BK327 := n4_; have BK338 := n5_; have BK346 := n6_; have HB := n7_; clear n0_ n1_ n2_ n3_ n4_ n5_ n6_ n7_; (try clear hb))) | try go_wp2_with (first | ((with_reducible refine gate_callee (f := 14) rfl ?_); refine goesL_ (some 99) rfl rfl Try.func14 (by kernel_rfl) rfl #[.agg #[.slice A0_0 l0_0.length c0_0, .slice A0_1 l0_1.length c0_1]] rfl (by (try simp only [List.map_toArray, List.map_cons, List.map_nil]); first | done | rfl | (simp only [List.length_drop, List.length_take]; rfl)) ?_; (with_reducible refine (athanorlaw04_right.calls k3 _ _ l0_0 _ _ l0_1 false _ ?side1 ?side2 ?side3 ?side4 A74.out).mono ?_); (case side1 => repeat (first|exact (Kd.C_below HR0_0.out HB.out) | with_reducible first|apply cA|apply cN|apply cD)); (case side2 => exact HC0_0.out); (case side3 => repeat (first|exact (Kd.C_below HR0_1.out HB.out) | with_reducible first|apply cA|apply cN|apply cD)); (case side4 => exact HC0_1.out); rintro e w95 ⟨rfl, hb⟩; refine ⟨_, rfl, ?_⟩; have n0_ := aM (Kd.R_below (by (with_reducible repeat (first|apply rA|apply rN|apply rD)); exact HO_339000.out) hb); have n1_ := aM (Kd.R_below (by (with_reducible repeat (first|apply rA|apply rN|apply rD)); exact HO_339001.out) hb); have n2_ := aM (Kd.R_below (by (with_reducible repeat (first|apply rA|apply rN|apply rD)); exact HO_347000.out) hb); have n3_ := aM (Kd.R_below (by (with_reducible repeat (first|apply rA|apply rN|apply rD)); exact HO_347001.out) hb); have n4_ := aM (blk_below (g := gb327) (o := .cells #[.slice A0_0 l0_0.length c0_0, .slice A0_1 l0_1.length c0_1, .slice A0_2 l0_2.length c0_2, .slice A0_3 l0_3.length c0_3, .int .i64 a0_4, .int .i64 a0_5, .int .i64 a0_6] 47 (0, 0)) (by (with_reducible repeat (first|apply kN|apply kD|apply kA)); exact BK327.out) hb); have n5_ := aM (blk_below (g := gb338) (o := .cells #[.slice Ao24 t331.length co24, .slice Ao27 t334.length co27] 26 (0, 0)) (by (with_reducible repeat (first|apply kN|apply kD|apply kA)); exact BK338.out) hb); have n6_ := aM (blk_below (g := gb346) (o := .cells #[.slice Ao31 t339.length co31, .slice Ao35 t342.length co35] 26 (0, 0)) (by (with_reducible repeat (first|apply kN|apply kD|apply kA)); exact BK346.out) hb); have n7_ := aM (below_step (by repeat (first | (with_reducible first|exact HB.out|apply bA|apply bN|apply bD|refine bS ?_ GE327.out|refine bS ?_ GE338.out|refine bS ?_ GE346.out)|exact HB.out)) hb); clear HO_339000; clear HO_339001; clear HO_347000; clear HO_347001; clear BK327; clear BK338; clear BK346; clear HB; have HO_339000 := n0_; have HO_339001 := n1_; have HO_347000 := n2_; have HO_347001 := n3_; have BK327 := n4_; have BK338 := n5_; have BK346 := n6_; have HB := n7_; clear n0_ n1_ n2_ n3_ n4_ n5_ n6_ n7_; (try clear hb))))
             go_meet
             case rel => exact ⟨_, (true), (by first | rfl | (simp; done) | (simp [*]; done)), H', ⟨by have := HJ2.out; have := HJ19.out; have := HK3.out; first | omega|exact Nat.le_refl _⟩, ⟨by (with_reducible repeat (first|apply rA|apply rN|apply rD)); exact HO_339000.out⟩, ⟨by (with_reducible repeat (first|apply rA|apply rN|apply rD)); exact HO_339001.out⟩, ⟨by (with_reducible repeat (first|apply rA|apply rN|apply rD)); exact HO_347000.out⟩, ⟨by (with_reducible repeat (first|apply rA|apply rN|apply rD)); exact HO_347001.out⟩, ⟨by (with_reducible repeat (first|apply kN|apply kD|apply kA)); exact BK327.out⟩, ⟨by (with_reducible repeat (first|apply kN|apply kD|apply kA)); exact BK338.out⟩, ⟨by (with_reducible repeat (first|apply kN|apply kD|apply kA)); exact BK346.out⟩, ⟨by repeat (first | (with_reducible first|exact HB.out|apply bA|apply bN|apply bD|refine bS ?_ GE327.out|refine bS ?_ GE338.out|refine bS ?_ GE346.out)|exact HB.out)⟩⟩
          case rest =>
           clear HC73
           (try clear c6); (try clear c14); (try clear c49); (try clear c49b0); (try clear c49b1); (try clear c60); (try clear c64); (try clear c64b0); (try clear c65); (try clear c65b0); (try clear c66); (try clear c66b0); (try clear c67); (try clear c67b0); (try clear c68); (try clear c68b0); (try clear c70); (try clear c70b0); (try clear c70b1); (try clear c75); (try clear c77); (try clear hcz10_0); (try clear hcz10_1); (try clear hcz10_2); (try clear hcz10_3); (try clear hcz10_4); (try clear hcz10_5); (try clear hcz10_6); (try clear hcz12_0); (try clear hcz12_1); (try clear hcz12_2); (try clear hcz12_3); (try clear hcz12_4); (try clear hcz12_5); (try clear hcz12_6); (try clear hcz21_0); (try clear hcz21_1); (try clear hcz21_2); (try clear hcz21_3); (try clear hcz21_4); (try clear hcz21_5); (try clear hcz21_6); (try clear hcz26_0); (try clear hcz26_1); (try clear hcz28_0); (try clear hcz28_1); (try clear hcz28_2); (try clear hcz28_3); (try clear hcz28_4); (try clear hcz28_5); (try clear hcz28_6); (try clear hcz34_0); (try clear hcz34_1); (try clear hcz36_0); (try clear hcz36_1); (try clear hcz36_2); (try clear hcz36_3); (try clear hcz36_4); (try clear hcz36_5); (try clear hcz36_6); (try clear hcz42_0); (try clear hcz42_1); (try clear hcz42_2); (try clear hcz42_3); (try clear hcz42_4); (try clear hcz42_5); (try clear hcz42_6); (try clear hcz47_0); (try clear hcz47_1); (try clear hcz47_2); (try clear hcz47_3); (try clear hcz47_4); (try clear hcz47_5); (try clear hcz47_6); (try clear hcz52_0); (try clear hcz52_1); (try clear hcz52_2); (try clear hcz52_3); (try clear hcz52_4); (try clear hcz52_5); (try clear hcz52_6); (try clear hcz55_0); (try clear hcz55_1); (try clear hcz58_0); (try clear hcz58_1); (try clear hcz58_2); (try clear hcz58_3); (try clear hcz58_4); (try clear hcz58_5); (try clear hcz58_6); (try clear hcz63_0); (try clear hcz63_1); (try clear hcz81_0); (try clear hcz81_1); (try clear hcz81_2); (try clear hcz81_3); (try clear hcz81_4); (try clear hcz81_5); (try clear hcz81_6); (try clear hcz83_0); (try clear hcz83_1); (try clear hcz83_2); (try clear hcz83_3); (try clear hcz83_4); (try clear hcz83_5); (try clear hcz83_6); (try clear hcz85_0); (try clear hcz85_1); (try clear hcz85_2); (try clear hcz85_3); (try clear hcz85_4); (try clear hcz85_5); (try clear hcz85_6); (try clear hcz88_0); (try clear hcz88_1); (try clear hcz88_2); (try clear hcz88_3); (try clear hcz88_4); (try clear hcz88_5); (try clear hcz88_6); (try clear hcz8_0); (try clear hcz8_1); (try clear hcz8_2); (try clear hcz8_3); (try clear hcz8_4); (try clear hcz8_5); (try clear hcz8_6); (try clear hcz90_0); (try clear hcz90_1); (try clear hcz90_2); (try clear hcz90_3); (try clear hcz90_4); (try clear hcz90_5); (try clear hcz90_6); (try clear hcz94_0); (try clear hcz94_1); (try clear hcz94_2); (try clear hcz94_3); (try clear hcz94_4); (try clear hcz94_5); (try clear hcz94_6); (try clear hfz10_0); (try clear hfz10_1); (try clear hfz10_2); (try clear hfz10_3); (try clear hfz10_4); (try clear hfz10_5); (try clear hfz10_6); (try clear hfz12_0); (try clear hfz12_1); (try clear hfz12_2); (try clear hfz12_3); (try clear hfz12_4); (try clear hfz12_5); (try clear hfz12_6); (try clear hfz21_0); (try clear hfz21_1); (try clear hfz21_2); (try clear hfz21_3); (try clear hfz21_4); (try clear hfz21_5); (try clear hfz21_6); (try clear hfz26_0); (try clear hfz26_1); (try clear hfz28_0); (try clear hfz28_1); (try clear hfz28_2); (try clear hfz28_3); (try clear hfz28_4); (try clear hfz28_5); (try clear hfz28_6); (try clear hfz34_0); (try clear hfz34_1); (try clear hfz36_0); (try clear hfz36_1); (try clear hfz36_2); (try clear hfz36_3); (try clear hfz36_4); (try clear hfz36_5); (try clear hfz36_6); (try clear hfz42_0); (try clear hfz42_1); (try clear hfz42_2); (try clear hfz42_3); (try clear hfz42_4); (try clear hfz42_5); (try clear hfz42_6); (try clear hfz47_0); (try clear hfz47_1); (try clear hfz47_2); (try clear hfz47_3); (try clear hfz47_4); (try clear hfz47_5); (try clear hfz47_6); (try clear hfz52_0); (try clear hfz52_1); (try clear hfz52_2); (try clear hfz52_3); (try clear hfz52_4); (try clear hfz52_5); (try clear hfz52_6); (try clear hfz55_0); (try clear hfz55_1); (try clear hfz58_0); (try clear hfz58_1); (try clear hfz58_2); (try clear hfz58_3); (try clear hfz58_4); (try clear hfz58_5); (try clear hfz58_6); (try clear hfz63_0); (try clear hfz63_1); (try clear hfz81_0); (try clear hfz81_1); (try clear hfz81_2); (try clear hfz81_3); (try clear hfz81_4); (try clear hfz81_5); (try clear hfz81_6); (try clear hfz83_0); (try clear hfz83_1); (try clear hfz83_2); (try clear hfz83_3); (try clear hfz83_4); (try clear hfz83_5); (try clear hfz83_6); (try clear hfz85_0); (try clear hfz85_1); (try clear hfz85_2); (try clear hfz85_3); (try clear hfz85_4); (try clear hfz85_5); (try clear hfz85_6); (try clear hfz88_0); (try clear hfz88_1); (try clear hfz88_2); (try clear hfz88_3); (try clear hfz88_4); (try clear hfz88_5); (try clear hfz88_6); (try clear hfz8_0); (try clear hfz8_1); (try clear hfz8_2); (try clear hfz8_3); (try clear hfz8_4); (try clear hfz8_5); (try clear hfz8_6); (try clear hfz90_0); (try clear hfz90_1); (try clear hfz90_2); (try clear hfz90_3); (try clear hfz90_4); (try clear hfz90_5); (try clear hfz90_6); (try clear hfz94_0); (try clear hfz94_1); (try clear hfz94_2); (try clear hfz94_3); (try clear hfz94_4); (try clear hfz94_5); (try clear hfz94_6); (try clear hx350_0); (try clear hx351_0); (try clear p350); (try clear p351); (try clear q350); (try clear q351)
           obtain ⟨kq, x116_72, rfl, HA, HJ72, HO_339000, HO_339001, HO_347000, HO_347001, BK327, BK338, BK346, HB⟩ := hcut
           cases kq with
           | zero => exact absurd HA.out (by simp [athanorlaw04_TensorSums.j3])
           | succ kj72 =>
            have H := HA.out
            clear HA
            simp only [athanorlaw04_TensorSums.j3] at H
            by_cases c96 : x116_72 = true
            ·subst c96
             have H1 : (if t337 = 20 then (if t348 = 20 then (if (t334.length : Int) = 0 then (if t347 = 0 then ((athanorlaw04_awake.f kj72).bind fun t356 => (some t356)) else (none)) else (none)) else (none)) else (none)) = some r := by rw [if_pos rfl] at H; exact H
             clear H
             have H := H1
             clear H1
             by_cases c97 : t337 = 20
             ·rw [if_pos c97] at H
              have c97b0 : (t337 == 20) = true := beq_iff_eq.mpr c97
              have c97b1 : (t337 != 20) = false := bne_eq_false_iff_eq.mpr c97
              clear c97
              by_cases c98 : t348 = 20
              ·rw [if_pos c98] at H
               have c98b0 : (t348 == 20) = true := beq_iff_eq.mpr c98
               have c98b1 : (t348 != 20) = false := bne_eq_false_iff_eq.mpr c98
               clear c98
               by_cases c99 : (t334.length : Int) = 0
               ·rw [if_pos c99] at H
                have c99b0 : ((t334.length : Int) == 0) = true := beq_iff_eq.mpr c99
                have c99b1 : ((t334.length : Int) != 0) = false := bne_eq_false_iff_eq.mpr c99
                clear c99
                by_cases c100 : t347 = 0
                ·rw [if_pos c100] at H
                 have c100b0 : (t347 == 0) = true := beq_iff_eq.mpr c100
                 have c100b1 : (t347 != 0) = false := bne_eq_false_iff_eq.mpr c100
                 clear c100
                 replace H := Option.bind_eq_some_iff.mp H
                 obtain ⟨t356, A1010, H⟩ := H
                 replace H : (some t356) = some r := H
                 have A101 := Aside0.mk A1010
                 clear A1010
                 as_aux_lemma =>
                  obtain rfl := Option.some.inj H
                  have hnb102 := NB338_327.out
                  have hnc102 := NB327_338.out
                  have hnb103 := NB338_346.out
                  have hnc103 := NB346_338.out
                  have hcz104_0 : wc.cell? ⟨gb338, 0, none⟩ = some (.slice Ao24 t331.length co24) := (blk_cell BK338.out 0).trans rfl
                  have hcz104_1 : wc.cell? ⟨gb338, 1, none⟩ = some (.slice Ao27 t334.length co27) := (blk_cell BK338.out 1).trans rfl
                  have hfz104_0 := blk_frozen BK338.out 0
                  have hfz104_1 := blk_frozen BK338.out 1
                  iterate 7 (first | go_quiet (first | (go_at_call 9; (with_reducible refine (athanorlaw04_awake.calls kj72  t356 _ A101.out).mono ?_); rintro e w105 ⟨rfl, hb⟩; have n0_ := aM (Kd.R_below (by (with_reducible repeat (first|apply rA|apply rN|apply rD)); exact HO_339000.out) hb); have n1_ := aM (Kd.R_below (by (with_reducible repeat (first|apply rA|apply rN|apply rD)); exact HO_339001.out) hb); have n2_ := aM (Kd.R_below (by (with_reducible repeat (first|apply rA|apply rN|apply rD)); exact HO_347000.out) hb); have n3_ := aM (Kd.R_below (by (with_reducible repeat (first|apply rA|apply rN|apply rD)); exact HO_347001.out) hb); have n4_ := aM (blk_below (g := gb327) (o := .cells #[.slice A0_0 l0_0.length c0_0, .slice A0_1 l0_1.length c0_1, .slice A0_2 l0_2.length c0_2, .slice A0_3 l0_3.length c0_3, .int .i64 a0_4, .int .i64 a0_5, .int .i64 a0_6] 47 (0, 0)) (by (with_reducible repeat (first|apply kN|apply kD|apply kA)); exact BK327.out) hb); have n5_ := aM (blk_below (g := gb338) (o := .cells #[.slice Ao24 t331.length co24, .slice Ao27 t334.length co27] 26 (0, 0)) (by (with_reducible repeat (first|apply kN|apply kD|apply kA)); exact BK338.out) hb); have n6_ := aM (blk_below (g := gb346) (o := .cells #[.slice Ao31 t339.length co31, .slice Ao35 t342.length co35] 26 (0, 0)) (by (with_reducible repeat (first|apply kN|apply kD|apply kA)); exact BK346.out) hb); have n7_ := aM (below_step (by repeat (first | (with_reducible first|exact HB.out|apply bA|apply bN|apply bD|refine bS ?_ GE327.out|refine bS ?_ GE338.out|refine bS ?_ GE346.out)|exact HB.out)) hb); clear HO_339000; clear HO_339001; clear HO_347000; clear HO_347001; clear BK327; clear BK338; clear BK346; clear HB; have HO_339000 := n0_; have HO_339001 := n1_; have HO_347000 := n2_; have HO_347001 := n3_; have BK327 := n4_; have BK338 := n5_; have BK346 := n6_; have HB := n7_; clear n0_ n1_ n2_ n3_ n4_ n5_ n6_ n7_; (try clear hb))) | try go_wp2_with (first | (go_at_call 9; (with_reducible refine (athanorlaw04_awake.calls kj72  t356 _ A101.out).mono ?_); rintro e w105 ⟨rfl, hb⟩; have n0_ := aM (Kd.R_below (by (with_reducible repeat (first|apply rA|apply rN|apply rD)); exact HO_339000.out) hb); have n1_ := aM (Kd.R_below (by (with_reducible repeat (first|apply rA|apply rN|apply rD)); exact HO_339001.out) hb); have n2_ := aM (Kd.R_below (by (with_reducible repeat (first|apply rA|apply rN|apply rD)); exact HO_347000.out) hb); have n3_ := aM (Kd.R_below (by (with_reducible repeat (first|apply rA|apply rN|apply rD)); exact HO_347001.out) hb); have n4_ := aM (blk_below (g := gb327) (o := .cells #[.slice A0_0 l0_0.length c0_0, .slice A0_1 l0_1.length c0_1, .slice A0_2 l0_2.length c0_2, .slice A0_3 l0_3.length c0_3, .int .i64 a0_4, .int .i64 a0_5, .int .i64 a0_6] 47 (0, 0)) (by (with_reducible repeat (first|apply kN|apply kD|apply kA)); exact BK327.out) hb); have n5_ := aM (blk_below (g := gb338) (o := .cells #[.slice Ao24 t331.length co24, .slice Ao27 t334.length co27] 26 (0, 0)) (by (with_reducible repeat (first|apply kN|apply kD|apply kA)); exact BK338.out) hb); have n6_ := aM (blk_below (g := gb346) (o := .cells #[.slice Ao31 t339.length co31, .slice Ao35 t342.length co35] 26 (0, 0)) (by (with_reducible repeat (first|apply kN|apply kD|apply kA)); exact BK346.out) hb); have n7_ := aM (below_step (by repeat (first | (with_reducible first|exact HB.out|apply bA|apply bN|apply bD|refine bS ?_ GE327.out|refine bS ?_ GE338.out|refine bS ?_ GE346.out)|exact HB.out)) hb); clear HO_339000; clear HO_339001; clear HO_347000; clear HO_347001; clear BK327; clear BK338; clear BK346; clear HB; have HO_339000 := n0_; have HO_339001 := n1_; have HO_347000 := n2_; have HO_347001 := n3_; have BK327 := n4_; have BK338 := n5_; have BK346 := n6_; have HB := n7_; clear n0_ n1_ n2_ n3_ n4_ n5_ n6_ n7_; (try clear hb))))
                  go_ret
                  exact ⟨by first | rfl | (simp [errW_none, errW_some] <;> rfl) | (simp [*, errW_none, errW_some] <;> rfl), by repeat (first | (with_reducible first|exact HB.out|apply bA|apply bN|apply bD|refine bS ?_ GE327.out|refine bS ?_ GE338.out|refine bS ?_ GE346.out)|exact HB.out)⟩
                ·rw [if_neg c100] at H
                 exact absurd H (by simp)
               ·rw [if_neg c99] at H
                exact absurd H (by simp)
              ·rw [if_neg c98] at H
               exact absurd H (by simp)
             ·rw [if_neg c97] at H
              exact absurd H (by simp)
            ·replace c96 := Bool.eq_false_iff.mpr c96
             subst c96
             have H1 : (if (t334.length : Int) = (l0_1.length : Int) then (athanorlaw04_TensorSums.j4 kj72 t337 t347 t348 0 ((t342.length : Int) != (l0_1.length : Int)) l0_0 l0_1 l0_2 l0_3 a0_4 a0_5 a0_6 t331 t334) else (athanorlaw04_TensorSums.j4 kj72 t337 t347 t348 0 true l0_0 l0_1 l0_2 l0_3 a0_4 a0_5 a0_6 t331 t334)) = some r := by rw [if_neg (show ¬ (false = true) by decide)] at H; exact H
             clear H
             have H := H1
             clear H1
             have HC106 := Aside0.mk H
             clear H
             go_upto_region 17 with (fail)
             go_cut [153] (fun v153 wc => ∃ (kq : Nat) (x153_105 : Bool), v153 = .bool x153_105 ∧ Aside0 (athanorlaw04_TensorSums.j4 kq t337 t347 t348 0 x153_105 l0_0 l0_1 l0_2 l0_3 a0_4 a0_5 a0_6 t331 t334 = some r) ∧ Aside0 (kq ≤ kj72) ∧ Aside0 (Kd.R (Kd.int .i64) 3 wc w.heap.size (fun k_ => some k_ ≠ ((.slice Ao31 t339.length co31) : Value).ownBlock) (.slice Ao24 t331.length co24) t331) ∧ Aside0 (Kd.R (Kd.int .i64) 27 wc w.heap.size (fun k_ => some k_ ≠ ((.slice Ao35 t342.length co35) : Value).ownBlock) (.slice Ao27 t334.length co27) t334) ∧ Aside0 (Kd.R (Kd.int .i64) 3 wc w.heap.size (fun k_ => some k_ ≠ ((.slice Ao24 t331.length co24) : Value).ownBlock) (.slice Ao31 t339.length co31) t339) ∧ Aside0 (Kd.R (Kd.int .i64) 27 wc w.heap.size (fun k_ => some k_ ≠ ((.slice Ao27 t334.length co27) : Value).ownBlock) (.slice Ao35 t342.length co35) t342) ∧ Aside0 (wc.heap[gb327]? = some (.cells #[(.slice A0_0 l0_0.length c0_0), (.slice A0_1 l0_1.length c0_1), (.slice A0_2 l0_2.length c0_2), (.slice A0_3 l0_3.length c0_3), .int .i64 a0_4, .int .i64 a0_5, .int .i64 a0_6] 47 (0, 0))) ∧ Aside0 (wc.heap[gb338]? = some (.cells #[(.slice Ao24 t331.length co24), (.slice Ao27 t334.length co27)] 26 (0, 0))) ∧ Aside0 (wc.heap[gb346]? = some (.cells #[(.slice Ao31 t339.length co31), (.slice Ao35 t342.length co35)] 26 (0, 0))) ∧ Aside0 (Below w.heap.size w wc))
             case first =>
              have H := HC106.out
              clear HC106
              by_cases c107 : (t334.length : Int) = (l0_1.length : Int)
              ·rw [if_pos c107] at H
               have c107b0 : ((t334.length : Int) == (l0_1.length : Int)) = true := beq_iff_eq.mpr c107
               have c107b1 : ((t334.length : Int) != (l0_1.length : Int)) = false := bne_eq_false_iff_eq.mpr c107
               have c107b2 : (t334.length == l0_1.length) = true := by first | simpa using c107 | (simp at c107 ⊢; omega)
               clear c107
               (first | rw [c107b0] | (simp only [i64_w, i32_w]; rw [c107b0]) | skip)
               as_aux_lemma =>
                have H' := Aside0.mk H
                clear H
                have hnb108 := NB338_327.out
                have hnc108 := NB327_338.out
                have hnb109 := NB338_346.out
                have hnc109 := NB346_338.out
                have hcz110_0 : wc.cell? ⟨gb338, 0, none⟩ = some (.slice Ao24 t331.length co24) := (blk_cell BK338.out 0).trans rfl
                have hcz110_1 : wc.cell? ⟨gb338, 1, none⟩ = some (.slice Ao27 t334.length co27) := (blk_cell BK338.out 1).trans rfl
                have hfz110_0 := blk_frozen BK338.out 0
                have hfz110_1 := blk_frozen BK338.out 1
                have hnb111 := NB327_346.out
                have hnc111 := NB346_327.out
                have hcz112_0 : wc.cell? ⟨gb327, 0, none⟩ = some (.slice A0_0 l0_0.length c0_0) := (blk_cell BK327.out 0).trans rfl
                have hcz112_1 : wc.cell? ⟨gb327, 1, none⟩ = some (.slice A0_1 l0_1.length c0_1) := (blk_cell BK327.out 1).trans rfl
                have hcz112_2 : wc.cell? ⟨gb327, 2, none⟩ = some (.slice A0_2 l0_2.length c0_2) := (blk_cell BK327.out 2).trans rfl
                have hcz112_3 : wc.cell? ⟨gb327, 3, none⟩ = some (.slice A0_3 l0_3.length c0_3) := (blk_cell BK327.out 3).trans rfl
                have hcz112_4 : wc.cell? ⟨gb327, 4, none⟩ = some (.int .i64 a0_4) := (blk_cell BK327.out 4).trans rfl
                have hcz112_5 : wc.cell? ⟨gb327, 5, none⟩ = some (.int .i64 a0_5) := (blk_cell BK327.out 5).trans rfl
                have hcz112_6 : wc.cell? ⟨gb327, 6, none⟩ = some (.int .i64 a0_6) := (blk_cell BK327.out 6).trans rfl
                have hfz112_0 := blk_frozen BK327.out 0
                have hfz112_1 := blk_frozen BK327.out 1
                have hfz112_2 := blk_frozen BK327.out 2
                have hfz112_3 := blk_frozen BK327.out 3
                have hfz112_4 := blk_frozen BK327.out 4
                have hfz112_5 := blk_frozen BK327.out 5
                have hfz112_6 := blk_frozen BK327.out 6
                have hcz113_0 : wc.cell? ⟨gb346, 0, none⟩ = some (.slice Ao31 t339.length co31) := (blk_cell BK346.out 0).trans rfl
                have hcz113_1 : wc.cell? ⟨gb346, 1, none⟩ = some (.slice Ao35 t342.length co35) := (blk_cell BK346.out 1).trans rfl
                have hfz113_0 := blk_frozen BK346.out 0
                have hfz113_1 := blk_frozen BK346.out 1
                iterate 7 (first | go_quiet (fail) | try go_wp2)
                go_meet
                case rel => exact ⟨_, (((t342.length : Int) != (l0_1.length : Int))), (by first | rfl | (simp; done) | (simp [*]; done)), H', ⟨by have := HJ2.out; have := HJ19.out; have := HK3.out; have := HJ72.out; first | omega|exact Nat.le_refl _⟩, ⟨by (with_reducible repeat (first|apply rA|apply rN|apply rD)); exact HO_339000.out⟩, ⟨by (with_reducible repeat (first|apply rA|apply rN|apply rD)); exact HO_339001.out⟩, ⟨by (with_reducible repeat (first|apply rA|apply rN|apply rD)); exact HO_347000.out⟩, ⟨by (with_reducible repeat (first|apply rA|apply rN|apply rD)); exact HO_347001.out⟩, ⟨by (with_reducible repeat (first|apply kN|apply kD|apply kA)); exact BK327.out⟩, ⟨by (with_reducible repeat (first|apply kN|apply kD|apply kA)); exact BK338.out⟩, ⟨by (with_reducible repeat (first|apply kN|apply kD|apply kA)); exact BK346.out⟩, ⟨by repeat (first | (with_reducible first|exact HB.out|apply bA|apply bN|apply bD|refine bS ?_ GE327.out|refine bS ?_ GE338.out|refine bS ?_ GE346.out)|exact HB.out)⟩⟩
              ·rw [if_neg c107] at H
               have c107b0 : ((t334.length : Int) == (l0_1.length : Int)) = false := beq_eq_false_iff_ne.mpr c107
               have c107b1 : ((t334.length : Int) != (l0_1.length : Int)) = true := bne_iff_ne.mpr c107
               have c107b2 : (t334.length == l0_1.length) = false := by first | simpa using c107 | (simp at c107 ⊢; omega)
               (first | rw [c107b0] | (simp only [i64_w, i32_w]; rw [c107b0]) | skip)
               as_aux_lemma =>
                have H' := Aside0.mk H
                clear H
                have hnb114 := NB338_327.out
                have hnc114 := NB327_338.out
                have hnb115 := NB338_346.out
                have hnc115 := NB346_338.out
                have hcz116_0 : wc.cell? ⟨gb338, 0, none⟩ = some (.slice Ao24 t331.length co24) := (blk_cell BK338.out 0).trans rfl
                have hcz116_1 : wc.cell? ⟨gb338, 1, none⟩ = some (.slice Ao27 t334.length co27) := (blk_cell BK338.out 1).trans rfl
                have hfz116_0 := blk_frozen BK338.out 0
                have hfz116_1 := blk_frozen BK338.out 1
                have hnb117 := NB327_346.out
                have hnc117 := NB346_327.out
                have hcz118_0 : wc.cell? ⟨gb327, 0, none⟩ = some (.slice A0_0 l0_0.length c0_0) := (blk_cell BK327.out 0).trans rfl
                have hcz118_1 : wc.cell? ⟨gb327, 1, none⟩ = some (.slice A0_1 l0_1.length c0_1) := (blk_cell BK327.out 1).trans rfl
                have hcz118_2 : wc.cell? ⟨gb327, 2, none⟩ = some (.slice A0_2 l0_2.length c0_2) := (blk_cell BK327.out 2).trans rfl
                have hcz118_3 : wc.cell? ⟨gb327, 3, none⟩ = some (.slice A0_3 l0_3.length c0_3) := (blk_cell BK327.out 3).trans rfl
                have hcz118_4 : wc.cell? ⟨gb327, 4, none⟩ = some (.int .i64 a0_4) := (blk_cell BK327.out 4).trans rfl
                have hcz118_5 : wc.cell? ⟨gb327, 5, none⟩ = some (.int .i64 a0_5) := (blk_cell BK327.out 5).trans rfl
                have hcz118_6 : wc.cell? ⟨gb327, 6, none⟩ = some (.int .i64 a0_6) := (blk_cell BK327.out 6).trans rfl
                have hfz118_0 := blk_frozen BK327.out 0
                have hfz118_1 := blk_frozen BK327.out 1
                have hfz118_2 := blk_frozen BK327.out 2
                have hfz118_3 := blk_frozen BK327.out 3
                have hfz118_4 := blk_frozen BK327.out 4
                have hfz118_5 := blk_frozen BK327.out 5
                have hfz118_6 := blk_frozen BK327.out 6
                iterate 7 (first | go_quiet (fail) | try go_wp2)
                go_meet
                case rel => exact ⟨_, (true), (by first | rfl | (simp; done) | (simp [*]; done)), H', ⟨by have := HJ2.out; have := HJ19.out; have := HK3.out; have := HJ72.out; first | omega|exact Nat.le_refl _⟩, ⟨by (with_reducible repeat (first|apply rA|apply rN|apply rD)); exact HO_339000.out⟩, ⟨by (with_reducible repeat (first|apply rA|apply rN|apply rD)); exact HO_339001.out⟩, ⟨by (with_reducible repeat (first|apply rA|apply rN|apply rD)); exact HO_347000.out⟩, ⟨by (with_reducible repeat (first|apply rA|apply rN|apply rD)); exact HO_347001.out⟩, ⟨by (with_reducible repeat (first|apply kN|apply kD|apply kA)); exact BK327.out⟩, ⟨by (with_reducible repeat (first|apply kN|apply kD|apply kA)); exact BK338.out⟩, ⟨by (with_reducible repeat (first|apply kN|apply kD|apply kA)); exact BK346.out⟩, ⟨by repeat (first | (with_reducible first|exact HB.out|apply bA|apply bN|apply bD|refine bS ?_ GE327.out|refine bS ?_ GE338.out|refine bS ?_ GE346.out)|exact HB.out)⟩⟩
             case rest =>
              clear HC106
              (try clear c6); (try clear c14); (try clear c49); (try clear c49b0); (try clear c49b1); (try clear c60); (try clear c64); (try clear c64b0); (try clear c65); (try clear c65b0); (try clear c66); (try clear c66b0); (try clear c67); (try clear c67b0); (try clear c68); (try clear c68b0); (try clear c70); (try clear c70b0); (try clear c70b1); (try clear c75); (try clear c77); (try clear c96); (try clear c97); (try clear c97b0); (try clear c97b1); (try clear c98); (try clear c98b0); (try clear c98b1); (try clear c99); (try clear c99b0); (try clear c99b1); (try clear c100); (try clear c100b0); (try clear c100b1); (try clear c107); (try clear c107b0); (try clear c107b1); (try clear c107b2); (try clear hcz104_0); (try clear hcz104_1); (try clear hcz10_0); (try clear hcz10_1); (try clear hcz10_2); (try clear hcz10_3); (try clear hcz10_4); (try clear hcz10_5); (try clear hcz10_6); (try clear hcz110_0); (try clear hcz110_1); (try clear hcz112_0); (try clear hcz112_1); (try clear hcz112_2); (try clear hcz112_3); (try clear hcz112_4); (try clear hcz112_5); (try clear hcz112_6); (try clear hcz113_0); (try clear hcz113_1); (try clear hcz116_0); (try clear hcz116_1); (try clear hcz118_0); (try clear hcz118_1); (try clear hcz118_2); (try clear hcz118_3); (try clear hcz118_4); (try clear hcz118_5); (try clear hcz118_6); (try clear hcz12_0); (try clear hcz12_1); (try clear hcz12_2); (try clear hcz12_3); (try clear hcz12_4); (try clear hcz12_5); (try clear hcz12_6); (try clear hcz21_0); (try clear hcz21_1); (try clear hcz21_2); (try clear hcz21_3); (try clear hcz21_4); (try clear hcz21_5); (try clear hcz21_6); (try clear hcz26_0); (try clear hcz26_1); (try clear hcz28_0); (try clear hcz28_1); (try clear hcz28_2); (try clear hcz28_3); (try clear hcz28_4); (try clear hcz28_5); (try clear hcz28_6); (try clear hcz34_0); (try clear hcz34_1); (try clear hcz36_0); (try clear hcz36_1); (try clear hcz36_2); (try clear hcz36_3); (try clear hcz36_4); (try clear hcz36_5); (try clear hcz36_6); (try clear hcz42_0); (try clear hcz42_1); (try clear hcz42_2); (try clear hcz42_3); (try clear hcz42_4); (try clear hcz42_5); (try clear hcz42_6); (try clear hcz47_0); (try clear hcz47_1); (try clear hcz47_2); (try clear hcz47_3); (try clear hcz47_4); (try clear hcz47_5); (try clear hcz47_6); (try clear hcz52_0); (try clear hcz52_1); (try clear hcz52_2); (try clear hcz52_3); (try clear hcz52_4); (try clear hcz52_5); (try clear hcz52_6); (try clear hcz55_0); (try clear hcz55_1); (try clear hcz58_0); (try clear hcz58_1); (try clear hcz58_2); (try clear hcz58_3); (try clear hcz58_4); (try clear hcz58_5); (try clear hcz58_6); (try clear hcz63_0); (try clear hcz63_1); (try clear hcz81_0); (try clear hcz81_1); (try clear hcz81_2); (try clear hcz81_3); (try clear hcz81_4); (try clear hcz81_5); (try clear hcz81_6); (try clear hcz83_0); (try clear hcz83_1); (try clear hcz83_2); (try clear hcz83_3); (try clear hcz83_4); (try clear hcz83_5); (try clear hcz83_6); (try clear hcz85_0); (try clear hcz85_1); (try clear hcz85_2); (try clear hcz85_3); (try clear hcz85_4); (try clear hcz85_5); (try clear hcz85_6); (try clear hcz88_0); (try clear hcz88_1); (try clear hcz88_2); (try clear hcz88_3); (try clear hcz88_4); (try clear hcz88_5); (try clear hcz88_6); (try clear hcz8_0); (try clear hcz8_1); (try clear hcz8_2); (try clear hcz8_3); (try clear hcz8_4); (try clear hcz8_5); (try clear hcz8_6); (try clear hcz90_0); (try clear hcz90_1); (try clear hcz90_2); (try clear hcz90_3); (try clear hcz90_4); (try clear hcz90_5); (try clear hcz90_6); (try clear hcz94_0); (try clear hcz94_1); (try clear hcz94_2); (try clear hcz94_3); (try clear hcz94_4); (try clear hcz94_5); (try clear hcz94_6); (try clear hfz104_0); (try clear hfz104_1); (try clear hfz10_0); (try clear hfz10_1); (try clear hfz10_2); (try clear hfz10_3); (try clear hfz10_4); (try clear hfz10_5); (try clear hfz10_6); (try clear hfz110_0); (try clear hfz110_1); (try clear hfz112_0); (try clear hfz112_1); (try clear hfz112_2); (try clear hfz112_3); (try clear hfz112_4); (try clear hfz112_5); (try clear hfz112_6); (try clear hfz113_0); (try clear hfz113_1); (try clear hfz116_0); (try clear hfz116_1); (try clear hfz118_0); (try clear hfz118_1); (try clear hfz118_2); (try clear hfz118_3); (try clear hfz118_4); (try clear hfz118_5); (try clear hfz118_6); (try clear hfz12_0); (try clear hfz12_1); (try clear hfz12_2); (try clear hfz12_3); (try clear hfz12_4); (try clear hfz12_5); (try clear hfz12_6); (try clear hfz21_0); (try clear hfz21_1); (try clear hfz21_2); (try clear hfz21_3); (try clear hfz21_4); (try clear hfz21_5); (try clear hfz21_6); (try clear hfz26_0); (try clear hfz26_1); (try clear hfz28_0); (try clear hfz28_1); (try clear hfz28_2); (try clear hfz28_3); (try clear hfz28_4); (try clear hfz28_5); (try clear hfz28_6); (try clear hfz34_0); (try clear hfz34_1); (try clear hfz36_0); (try clear hfz36_1); (try clear hfz36_2); (try clear hfz36_3); (try clear hfz36_4); (try clear hfz36_5); (try clear hfz36_6); (try clear hfz42_0); (try clear hfz42_1); (try clear hfz42_2); (try clear hfz42_3); (try clear hfz42_4); (try clear hfz42_5); (try clear hfz42_6); (try clear hfz47_0); (try clear hfz47_1); (try clear hfz47_2); (try clear hfz47_3); (try clear hfz47_4); (try clear hfz47_5); (try clear hfz47_6); (try clear hfz52_0); (try clear hfz52_1); (try clear hfz52_2); (try clear hfz52_3); (try clear hfz52_4); (try clear hfz52_5); (try clear hfz52_6); (try clear hfz55_0); (try clear hfz55_1); (try clear hfz58_0); (try clear hfz58_1); (try clear hfz58_2); (try clear hfz58_3); (try clear hfz58_4); (try clear hfz58_5); (try clear hfz58_6); (try clear hfz63_0); (try clear hfz63_1); (try clear hfz81_0); (try clear hfz81_1); (try clear hfz81_2); (try clear hfz81_3); (try clear hfz81_4); (try clear hfz81_5); (try clear hfz81_6); (try clear hfz83_0); (try clear hfz83_1); (try clear hfz83_2); (try clear hfz83_3); (try clear hfz83_4); (try clear hfz83_5); (try clear hfz83_6); (try clear hfz85_0); (try clear hfz85_1); (try clear hfz85_2); (try clear hfz85_3); (try clear hfz85_4); (try clear hfz85_5); (try clear hfz85_6); (try clear hfz88_0); (try clear hfz88_1); (try clear hfz88_2); (try clear hfz88_3); (try clear hfz88_4); (try clear hfz88_5); (try clear hfz88_6); (try clear hfz8_0); (try clear hfz8_1); (try clear hfz8_2); (try clear hfz8_3); (try clear hfz8_4); (try clear hfz8_5); (try clear hfz8_6); (try clear hfz90_0); (try clear hfz90_1); (try clear hfz90_2); (try clear hfz90_3); (try clear hfz90_4); (try clear hfz90_5); (try clear hfz90_6); (try clear hfz94_0); (try clear hfz94_1); (try clear hfz94_2); (try clear hfz94_3); (try clear hfz94_4); (try clear hfz94_5); (try clear hfz94_6); (try clear hx350_0); (try clear hx351_0); (try clear p350); (try clear p351); (try clear q350); (try clear q351)
              obtain ⟨kq, x153_105, rfl, HA, HJ105, HO_339000, HO_339001, HO_347000, HO_347001, BK327, BK338, BK346, HB⟩ := hcut
              cases kq with
              | zero => exact absurd HA.out (by simp [athanorlaw04_TensorSums.j4])
              | succ kj105 =>
               have H := HA.out
               clear HA
               simp only [athanorlaw04_TensorSums.j4] at H
               by_cases c119 : x153_105 = true
               ·subst c119
                have H1 : (none) = some r := by rw [if_pos rfl] at H; exact H
                clear H
                have H := H1
                clear H1
                exact absurd H (by simp)
               ·replace c119 := Bool.eq_false_iff.mpr c119
                subst c119
                have H1 : (athanorlaw04_TensorSums.l1 kj105 t337 t347 t348 0 (t334.length : Int) 0 l0_0 l0_1 l0_2 l0_3 a0_4 a0_5 a0_6 t331 t334) = some r := by rw [if_neg (show ¬ (false = true) by decide)] at H; exact H
                clear H
                have H := H1
                clear H1
                have H' := Aside0.mk H
                clear H
                have hnb120 := NB338_327.out
                have hnc120 := NB327_338.out
                have hnb121 := NB338_346.out
                have hnc121 := NB346_338.out
                have hcz122_0 : wc.cell? ⟨gb338, 0, none⟩ = some (.slice Ao24 t331.length co24) := (blk_cell BK338.out 0).trans rfl
                have hcz122_1 : wc.cell? ⟨gb338, 1, none⟩ = some (.slice Ao27 t334.length co27) := (blk_cell BK338.out 1).trans rfl
                have hfz122_0 := blk_frozen BK338.out 0
                have hfz122_1 := blk_frozen BK338.out 1
                iterate 7 (first | go_quiet (fail) | try go_wp2)
                go_loopg [12, 157] kj105 (fun kq v12 v157 w' => ∃ (x12_6 : Int) (x157_6 : Int), v12 = .int .i64 x12_6 ∧ v157 = .int .i64 x157_6 ∧ Aside0 (athanorlaw04_TensorSums.l1 kq t337 t347 t348 x12_6 (t334.length : Int) x157_6 l0_0 l0_1 l0_2 l0_3 a0_4 a0_5 a0_6 t331 t334 = some r) ∧ Aside0 (kq ≤ kj105) ∧ Aside0 (Kd.R (Kd.int .i64) 3 w' w.heap.size (fun k_ => some k_ ≠ ((.slice Ao31 t339.length co31) : Value).ownBlock) (.slice Ao24 t331.length co24) t331) ∧ Aside0 (Kd.R (Kd.int .i64) 27 w' w.heap.size (fun k_ => some k_ ≠ ((.slice Ao35 t342.length co35) : Value).ownBlock) (.slice Ao27 t334.length co27) t334) ∧ Aside0 (Kd.R (Kd.int .i64) 3 w' w.heap.size (fun k_ => some k_ ≠ ((.slice Ao24 t331.length co24) : Value).ownBlock) (.slice Ao31 t339.length co31) t339) ∧ Aside0 (Kd.R (Kd.int .i64) 27 w' w.heap.size (fun k_ => some k_ ≠ ((.slice Ao27 t334.length co27) : Value).ownBlock) (.slice Ao35 t342.length co35) t342) ∧ Aside0 (w'.heap[gb327]? = some (.cells #[(.slice A0_0 l0_0.length c0_0), (.slice A0_1 l0_1.length c0_1), (.slice A0_2 l0_2.length c0_2), (.slice A0_3 l0_3.length c0_3), .int .i64 a0_4, .int .i64 a0_5, .int .i64 a0_6] 47 (0, 0))) ∧ Aside0 (w'.heap[gb338]? = some (.cells #[(.slice Ao24 t331.length co24), (.slice Ao27 t334.length co27)] 26 (0, 0))) ∧ Aside0 (w'.heap[gb346]? = some (.cells #[(.slice Ao31 t339.length co31), (.slice Ao35 t342.length co35)] 26 (0, 0))) ∧ Aside0 (Below w.heap.size w w'))
                case atStart => exact ⟨(0), (0), (by first | rfl | (simp; done) | (simp [*]; done)), (by first | rfl | (simp; done) | (simp [*]; done)), H', ⟨Nat.le_refl _⟩, ⟨by (with_reducible repeat (first|apply rA|apply rN|apply rD)); exact HO_339000.out⟩, ⟨by (with_reducible repeat (first|apply rA|apply rN|apply rD)); exact HO_339001.out⟩, ⟨by (with_reducible repeat (first|apply rA|apply rN|apply rD)); exact HO_347000.out⟩, ⟨by (with_reducible repeat (first|apply rA|apply rN|apply rD)); exact HO_347001.out⟩, ⟨by (with_reducible repeat (first|apply kN|apply kD|apply kA)); exact BK327.out⟩, ⟨by (with_reducible repeat (first|apply kN|apply kD|apply kA)); exact BK338.out⟩, ⟨by (with_reducible repeat (first|apply kN|apply kD|apply kA)); exact BK346.out⟩, ⟨by repeat (first | (with_reducible first|exact HB.out|apply bA|apply bN|apply bD|refine bS ?_ GE327.out|refine bS ?_ GE338.out|refine bS ?_ GE346.out)|exact HB.out)⟩⟩
                case round =>
                 clear H'
                 (try clear c6); (try clear c14); (try clear c49); (try clear c49b0); (try clear c49b1); (try clear c60); (try clear c64); (try clear c64b0); (try clear c65); (try clear c65b0); (try clear c66); (try clear c66b0); (try clear c67); (try clear c67b0); (try clear c68); (try clear c68b0); (try clear c70); (try clear c70b0); (try clear c70b1); (try clear c75); (try clear c77); (try clear c96); (try clear c97); (try clear c97b0); (try clear c97b1); (try clear c98); (try clear c98b0); (try clear c98b1); (try clear c99); (try clear c99b0); (try clear c99b1); (try clear c100); (try clear c100b0); (try clear c100b1); (try clear c107); (try clear c107b0); (try clear c107b1); (try clear c107b2); (try clear c119); (try clear hcz104_0); (try clear hcz104_1); (try clear hcz10_0); (try clear hcz10_1); (try clear hcz10_2); (try clear hcz10_3); (try clear hcz10_4); (try clear hcz10_5); (try clear hcz10_6); (try clear hcz110_0); (try clear hcz110_1); (try clear hcz112_0); (try clear hcz112_1); (try clear hcz112_2); (try clear hcz112_3); (try clear hcz112_4); (try clear hcz112_5); (try clear hcz112_6); (try clear hcz113_0); (try clear hcz113_1); (try clear hcz116_0); (try clear hcz116_1); (try clear hcz118_0); (try clear hcz118_1); (try clear hcz118_2); (try clear hcz118_3); (try clear hcz118_4); (try clear hcz118_5); (try clear hcz118_6); (try clear hcz122_0); (try clear hcz122_1); (try clear hcz12_0); (try clear hcz12_1); (try clear hcz12_2); (try clear hcz12_3); (try clear hcz12_4); (try clear hcz12_5); (try clear hcz12_6); (try clear hcz21_0); (try clear hcz21_1); (try clear hcz21_2); (try clear hcz21_3); (try clear hcz21_4); (try clear hcz21_5); (try clear hcz21_6); (try clear hcz26_0); (try clear hcz26_1); (try clear hcz28_0); (try clear hcz28_1); (try clear hcz28_2); (try clear hcz28_3); (try clear hcz28_4); (try clear hcz28_5); (try clear hcz28_6); (try clear hcz34_0); (try clear hcz34_1); (try clear hcz36_0); (try clear hcz36_1); (try clear hcz36_2); (try clear hcz36_3); (try clear hcz36_4); (try clear hcz36_5); (try clear hcz36_6); (try clear hcz42_0); (try clear hcz42_1); (try clear hcz42_2); (try clear hcz42_3); (try clear hcz42_4); (try clear hcz42_5); (try clear hcz42_6); (try clear hcz47_0); (try clear hcz47_1); (try clear hcz47_2); (try clear hcz47_3); (try clear hcz47_4); (try clear hcz47_5); (try clear hcz47_6); (try clear hcz52_0); (try clear hcz52_1); (try clear hcz52_2); (try clear hcz52_3); (try clear hcz52_4); (try clear hcz52_5); (try clear hcz52_6); (try clear hcz55_0); (try clear hcz55_1); (try clear hcz58_0); (try clear hcz58_1); (try clear hcz58_2); (try clear hcz58_3); (try clear hcz58_4); (try clear hcz58_5); (try clear hcz58_6); (try clear hcz63_0); (try clear hcz63_1); (try clear hcz81_0); (try clear hcz81_1); (try clear hcz81_2); (try clear hcz81_3); (try clear hcz81_4); (try clear hcz81_5); (try clear hcz81_6); (try clear hcz83_0); (try clear hcz83_1); (try clear hcz83_2); (try clear hcz83_3); (try clear hcz83_4); (try clear hcz83_5); (try clear hcz83_6); (try clear hcz85_0); (try clear hcz85_1); (try clear hcz85_2); (try clear hcz85_3); (try clear hcz85_4); (try clear hcz85_5); (try clear hcz85_6); (try clear hcz88_0); (try clear hcz88_1); (try clear hcz88_2); (try clear hcz88_3); (try clear hcz88_4); (try clear hcz88_5); (try clear hcz88_6); (try clear hcz8_0); (try clear hcz8_1); (try clear hcz8_2); (try clear hcz8_3); (try clear hcz8_4); (try clear hcz8_5); (try clear hcz8_6); (try clear hcz90_0); (try clear hcz90_1); (try clear hcz90_2); (try clear hcz90_3); (try clear hcz90_4); (try clear hcz90_5); (try clear hcz90_6); (try clear hcz94_0); (try clear hcz94_1); (try clear hcz94_2); (try clear hcz94_3); (try clear hcz94_4); (try clear hcz94_5); (try clear hcz94_6); (try clear hfz104_0); (try clear hfz104_1); (try clear hfz10_0); (try clear hfz10_1); (try clear hfz10_2); (try clear hfz10_3); (try clear hfz10_4); (try clear hfz10_5); (try clear hfz10_6); (try clear hfz110_0); (try clear hfz110_1); (try clear hfz112_0); (try clear hfz112_1); (try clear hfz112_2); (try clear hfz112_3); (try clear hfz112_4); (try clear hfz112_5); (try clear hfz112_6); (try clear hfz113_0); (try clear hfz113_1); (try clear hfz116_0); (try clear hfz116_1); (try clear hfz118_0); (try clear hfz118_1); (try clear hfz118_2); (try clear hfz118_3); (try clear hfz118_4); (try clear hfz118_5); (try clear hfz118_6); (try clear hfz122_0); (try clear hfz122_1); (try clear hfz12_0); (try clear hfz12_1); (try clear hfz12_2); (try clear hfz12_3); (try clear hfz12_4); (try clear hfz12_5); (try clear hfz12_6); (try clear hfz21_0); (try clear hfz21_1); (try clear hfz21_2); (try clear hfz21_3); (try clear hfz21_4); (try clear hfz21_5); (try clear hfz21_6); (try clear hfz26_0); (try clear hfz26_1); (try clear hfz28_0); (try clear hfz28_1); (try clear hfz28_2); (try clear hfz28_3); (try clear hfz28_4); (try clear hfz28_5); (try clear hfz28_6); (try clear hfz34_0); (try clear hfz34_1); (try clear hfz36_0); (try clear hfz36_1); (try clear hfz36_2); (try clear hfz36_3); (try clear hfz36_4); (try clear hfz36_5); (try clear hfz36_6); (try clear hfz42_0); (try clear hfz42_1); (try clear hfz42_2); (try clear hfz42_3); (try clear hfz42_4); (try clear hfz42_5); (try clear hfz42_6); (try clear hfz47_0); (try clear hfz47_1); (try clear hfz47_2); (try clear hfz47_3); (try clear hfz47_4); (try clear hfz47_5); (try clear hfz47_6); (try clear hfz52_0); (try clear hfz52_1); (try clear hfz52_2); (try clear hfz52_3); (try clear hfz52_4); (try clear hfz52_5); (try clear hfz52_6); (try clear hfz55_0); (try clear hfz55_1); (try clear hfz58_0); (try clear hfz58_1); (try clear hfz58_2); (try clear hfz58_3); (try clear hfz58_4); (try clear hfz58_5); (try clear hfz58_6); (try clear hfz63_0); (try clear hfz63_1); (try clear hfz81_0); (try clear hfz81_1); (try clear hfz81_2); (try clear hfz81_3); (try clear hfz81_4); (try clear hfz81_5); (try clear hfz81_6); (try clear hfz83_0); (try clear hfz83_1); (try clear hfz83_2); (try clear hfz83_3); (try clear hfz83_4); (try clear hfz83_5); (try clear hfz83_6); (try clear hfz85_0); (try clear hfz85_1); (try clear hfz85_2); (try clear hfz85_3); (try clear hfz85_4); (try clear hfz85_5); (try clear hfz85_6); (try clear hfz88_0); (try clear hfz88_1); (try clear hfz88_2); (try clear hfz88_3); (try clear hfz88_4); (try clear hfz88_5); (try clear hfz88_6); (try clear hfz8_0); (try clear hfz8_1); (try clear hfz8_2); (try clear hfz8_3); (try clear hfz8_4); (try clear hfz8_5); (try clear hfz8_6); (try clear hfz90_0); (try clear hfz90_1); (try clear hfz90_2); (try clear hfz90_3); (try clear hfz90_4); (try clear hfz90_5); (try clear hfz90_6); (try clear hfz94_0); (try clear hfz94_1); (try clear hfz94_2); (try clear hfz94_3); (try clear hfz94_4); (try clear hfz94_5); (try clear hfz94_6); (try clear hx350_0); (try clear hx351_0); (try clear p350); (try clear p351); (try clear q350); (try clear q351)
                 obtain ⟨x12_6, x157_6, rfl, rfl, HA, HK6, HO_339000, HO_339001, HO_347000, HO_347001, BK327, BK338, BK346, HB⟩ := hrel
                 cases gk with
                 | zero => exact absurd HA.out (by simp [athanorlaw04_TensorSums.l1])
                 | succ k6 =>
                  have H := HA.out
                  clear HA
                  simp only [athanorlaw04_TensorSums.l1] at H
                  by_cases c123 : x157_6 < (t334.length : Int)
                  ·rw [if_pos c123] at H
                   have c123b0 : decide (x157_6 < (t334.length : Int)) = true := decide_eq_true c123
                   clear c123
                   by_cases c124 : 0 ≤ x157_6
                   ·rw [if_pos c124] at H
                    have c124b0 : decide (0 ≤ x157_6) = true := decide_eq_true c124
                    clear c124
                    by_cases c125 : x157_6 < (l0_1.length : Int)
                    ·rw [if_pos c125] at H
                     have c125b0 : decide (x157_6 < (l0_1.length : Int)) = true := decide_eq_true c125
                     clear c125
                     by_cases c126 : x157_6 < (l0_3.length : Int)
                     ·rw [if_pos c126] at H
                      have c126b0 : decide (x157_6 < (l0_3.length : Int)) = true := decide_eq_true c126
                      clear c126
                      replace H := Option.bind_eq_some_iff.mp H
                      obtain ⟨t361, A1270, H⟩ := H
                      replace H : ((athanorref01_Add.f k6 x12_6 t361).bind fun t362 => (if x157_6 < (t334.length : Int) then ((athanorref01_Add.f k6 (rd l0_1 x157_6) (rd l0_3 x157_6)).bind fun t366 => (if (rd t334 x157_6) = t366 then (athanorlaw04_TensorSums.l1 k6 t337 t347 t348 t362 (t334.length : Int) (wrap64 (x157_6 + 1)) l0_0 l0_1 l0_2 l0_3 a0_4 a0_5 a0_6 t331 t334) else (none))) else (none))) = some r := H
                      have A127 := Aside0.mk A1270
                      clear A1270
                      replace H := Option.bind_eq_some_iff.mp H
                      obtain ⟨t362, A1280, H⟩ := H
                      replace H : (if x157_6 < (t334.length : Int) then ((athanorref01_Add.f k6 (rd l0_1 x157_6) (rd l0_3 x157_6)).bind fun t366 => (if (rd t334 x157_6) = t366 then (athanorlaw04_TensorSums.l1 k6 t337 t347 t348 t362 (t334.length : Int) (wrap64 (x157_6 + 1)) l0_0 l0_1 l0_2 l0_3 a0_4 a0_5 a0_6 t331 t334) else (none))) else (none)) = some r := H
                      have A128 := Aside0.mk A1280
                      clear A1280
                      by_cases c129 : x157_6 < (t334.length : Int)
                      ·rw [if_pos c129] at H
                       have c129b0 : decide (x157_6 < (t334.length : Int)) = true := decide_eq_true c129
                       clear c129
                       replace H := Option.bind_eq_some_iff.mp H
                       obtain ⟨t366, A1300, H⟩ := H
                       replace H : (if (rd t334 x157_6) = t366 then (athanorlaw04_TensorSums.l1 k6 t337 t347 t348 t362 (t334.length : Int) (wrap64 (x157_6 + 1)) l0_0 l0_1 l0_2 l0_3 a0_4 a0_5 a0_6 t331 t334) else (none)) = some r := H
                       have A130 := Aside0.mk A1300
                       clear A1300
                       by_cases c131 : (rd t334 x157_6) = t366
                       ·rw [if_pos c131] at H
                        have c131b0 : ((rd t334 x157_6) == t366) = true := beq_iff_eq.mpr c131
                        have c131b1 : ((rd t334 x157_6) != t366) = false := bne_eq_false_iff_eq.mpr c131
                        clear c131
                        as_aux_lemma =>
                         have H' := Aside0.mk H
                         clear H
                         try go_wp2
                         have n0_ := aM (Kd.R_drew HO_339000.out)
                         have n1_ := aM (Kd.R_drew HO_339001.out)
                         have n2_ := aM (Kd.R_drew HO_347000.out)
                         have n3_ := aM (Kd.R_drew HO_347001.out)
                         have n4_ := aM (blk_drew BK327.out)
                         have n5_ := aM (blk_drew BK338.out)
                         have n6_ := aM (blk_drew BK346.out)
                         have n7_ := aM (below_drew1 HB.out)
                         clear HO_339000
                         clear HO_339001
                         clear HO_347000
                         clear HO_347001
                         clear BK327
                         clear BK338
                         clear BK346
                         clear HB
                         have HO_339000 := n0_
                         have HO_339001 := n1_
                         have HO_347000 := n2_
                         have HO_347001 := n3_
                         have BK327 := n4_
                         have BK338 := n5_
                         have BK346 := n6_
                         have HB := n7_
                         clear n0_ n1_ n2_ n3_ n4_ n5_ n6_ n7_
                         have p359 : 0 ≤ (x157_6 : Int) := of_decide_eq_true (by first | (with_reducible assumption) | assumption)
                         have q359 : x157_6 < (l0_1.length : Int) := of_decide_eq_true (by first | (with_reducible assumption) | assumption)
                         obtain ⟨ad359, e359, hx359_0⟩ := Kd.at_int HR0_1.out x157_6 p359 q359
                         have hw359_0 := hx359_0
                         cases e359
                         replace hx359_0 := (HB.out.cell (World.block_lt_of_cell? w _ hx359_0)).trans hx359_0
                         replace p359 := eq_true p359
                         replace q359 := eq_true q359
                         have p360 : 0 ≤ (x157_6 : Int) := of_decide_eq_true (by first | (with_reducible assumption) | assumption)
                         have q360 : x157_6 < (l0_3.length : Int) := of_decide_eq_true (by first | (with_reducible assumption) | assumption)
                         obtain ⟨ad360, e360, hx360_0⟩ := Kd.at_int HR0_3.out x157_6 p360 q360
                         have hw360_0 := hx360_0
                         cases e360
                         replace hx360_0 := (HB.out.cell (World.block_lt_of_cell? w _ hx360_0)).trans hx360_0
                         replace p360 := eq_true p360
                         replace q360 := eq_true q360
                         refine start_ (n := 16) (S := fun w' => w'.cell? ⟨gb327, 0, none⟩ = some (.slice A0_0 l0_0.length c0_0) ∧ w'.cell? ⟨gb327, 1, none⟩ = some (.slice (some ad359) l0_1.length c0_1) ∧ w'.cell? ⟨gb327, 2, none⟩ = some (.slice A0_2 l0_2.length c0_2) ∧ w'.cell? ⟨gb327, 3, none⟩ = some (.slice (some ad360) l0_3.length c0_3) ∧ w'.cell? ⟨gb327, 4, none⟩ = some (.int .i64 a0_4) ∧ w'.cell? ⟨gb327, 5, none⟩ = some (.int .i64 a0_5) ∧ w'.cell? ⟨gb327, 6, none⟩ = some (.int .i64 a0_6) ∧ w'.cell? (ad359.add (x157_6).toNat) = some (.int .i64 (rd l0_1 x157_6)) ∧ w'.cell? (ad360.add (x157_6).toNat) = some (.int .i64 (rd l0_3 x157_6))) (ds := []) #[false, false, false, false, false, false, false, false, false, false, false, false, false, false, false, false] (by kernel_rfl) rfl rfl ⟨(blk_cell BK327.out 0).trans rfl, (blk_cell BK327.out 1).trans rfl, (blk_cell BK327.out 2).trans rfl, (blk_cell BK327.out 3).trans rfl, (blk_cell BK327.out 4).trans rfl, (blk_cell BK327.out 5).trans rfl, (blk_cell BK327.out 6).trans rfl, ((HB.out.cell (World.block_lt_of_cell? w _ hw359_0)).trans hw359_0), ((HB.out.cell (World.block_lt_of_cell? w _ hw360_0)).trans hw360_0)⟩ (fun hHeld => ?_); refine with_tabW athanorlaw04_TensorSums.tab22 athanorlaw04_TensorSums.bits22 (fun HT_ HW_ => ?_)
                         generalize wr.drew = w132 at HO_339000 HO_339001 HO_347000 HO_347001 BK327 BK338 BK346 HB hx359_0 hx360_0 hHeld ⊢
                         refine pure_ (i := 0) (N := some 160) (v := ?_) (a' := ?_) #[true, false, false, false, false, false, false, false, false, false, false, false, false, false, false, false] rfl rfl (any_of HT_.out (by kernel_rfl)) (fun _ _ _ h => h) (Or.inl ⟨by rfl, ?_⟩) ?_ ?_
                         rotate_left
                         ·intro w'
                          go_simp
                          with_reducible rfl
                         rotate_left
                         ·simp only [Act.put, List.setIfInBounds_toArray, List.set_cons_zero, List.set_cons_succ, i64_w, i32_w]
                          rfl
                         refine pure_ (i := 1) (N := some 161) (v := ?_) (a' := ?_) #[true, true, false, false, false, false, false, false, false, false, false, false, false, false, false, false] rfl rfl (any_of HT_.out (by kernel_rfl)) (fun _ _ _ h => h) (Or.inl ⟨by rfl, ?_⟩) ?_ ?_
                         rotate_left
                         ·intro w'
                          go_simp
                          with_reducible rfl
                         rotate_left
                         ·simp only [Act.put, List.setIfInBounds_toArray, List.set_cons_zero, List.set_cons_succ, i64_w, i32_w]
                          rfl
                         refine pure_ (i := 2) (N := some 162) (v := ?_) (a' := ?_) #[true, true, true, false, false, false, false, false, false, false, false, false, false, false, false, false] rfl rfl (any_of HT_.out (by kernel_rfl)) (fun _ _ _ h => h) (Or.inl ⟨by rfl, ?_⟩) ?_ ?_
                         rotate_left
                         ·intro w'
                          go_simp
                          with_reducible rfl
                         rotate_left
                         ·simp only [Act.put, List.setIfInBounds_toArray, List.set_cons_zero, List.set_cons_succ, i64_w, i32_w]
                          rfl
                         refine pure_ (i := 4) (N := some 164) (v := ?_) (a' := ?_) #[true, true, true, false, true, false, false, false, false, false, false, false, false, false, false, false] rfl rfl (any_of HT_.out (by kernel_rfl)) (fun _ _ _ h => h) (Or.inl ⟨by rfl, ?_⟩) ?_ ?_
                         rotate_left
                         ·intro w'
                          go_simp
                          with_reducible rfl
                         rotate_left
                         ·simp only [Act.put, List.setIfInBounds_toArray, List.set_cons_zero, List.set_cons_succ, i64_w, i32_w]
                          rfl
                         refine pure_ (i := 7) (N := some 167) (v := ?_) (a' := ?_) #[true, true, true, false, true, false, false, true, false, false, false, false, false, false, false, false] rfl rfl (any_of HT_.out (by kernel_rfl)) (fun _ _ _ h => h) (Or.inl ⟨by rfl, ?_⟩) ?_ ?_
                         rotate_left
                         ·intro w'
                          go_simp
                          with_reducible rfl
                         rotate_left
                         ·simp only [Act.put, List.setIfInBounds_toArray, List.set_cons_zero, List.set_cons_succ, i64_w, i32_w]
                          rfl
                         refine pure_ (i := 8) (N := some 168) (v := ?_) (a' := ?_) #[true, true, true, false, true, false, false, true, true, false, false, false, false, false, false, false] rfl rfl (any_of HT_.out (by kernel_rfl)) (fun _ _ _ h => h) (Or.inl ⟨by rfl, ?_⟩) ?_ ?_
                         rotate_left
                         ·intro w'
                          go_simp
                          with_reducible rfl
                         rotate_left
                         ·simp only [Act.put, List.setIfInBounds_toArray, List.set_cons_zero, List.set_cons_succ, i64_w, i32_w]
                          rfl
                         refine pure_ (i := 10) (N := some 170) (v := ?_) (a' := ?_) #[true, true, true, false, true, false, false, true, true, false, true, false, false, false, false, false] rfl rfl (any_of HT_.out (by kernel_rfl)) (fun _ _ _ h => h) (Or.inl ⟨by rfl, ?_⟩) ?_ ?_
                         rotate_left
                         ·intro w'
                          go_simp
                          with_reducible rfl
                         rotate_left
                         ·simp only [Act.put, List.setIfInBounds_toArray, List.set_cons_zero, List.set_cons_succ, i64_w, i32_w]
                          rfl
                         refine take_ (i := 3) (N := some 163) (v := ?_) (a' := ?_) #[true, true, true, true, true, false, false, true, true, false, true, false, false, false, false, false] rfl rfl (take_ofW HT_.out HW_.out (by kernel_rfl)) (fun _ _ _ h => h) (Or.inl ⟨by rfl, ?_⟩) hHeld ?_ ?_
                         rotate_left
                         ·rintro w' ⟨s0, s1, s2, s3, s4, s5, s6, s7, s8⟩
                          go_simp
                          with_reducible rfl
                         rotate_left
                         ·simp only [Act.put, List.setIfInBounds_toArray, List.set_cons_zero, List.set_cons_succ, i64_w, i32_w]
                          rfl
                         refine pure_ (i := 5) (N := some 165) (v := ?_) (a' := ?_) #[true, true, true, true, true, true, false, true, true, false, true, false, false, false, false, false] rfl rfl (any_of HT_.out (by kernel_rfl)) (fun _ _ _ h => h) (Or.inl ⟨by rfl, ?_⟩) ?_ ?_
                         rotate_left
                         ·intro w'
                          go_simp
                          with_reducible rfl
                         rotate_left
                         ·simp only [Act.put, List.setIfInBounds_toArray, List.set_cons_zero, List.set_cons_succ, i64_w, i32_w]
                          rfl
                         refine take_ (i := 6) (N := some 166) (v := ?_) (a' := ?_) #[true, true, true, true, true, true, true, true, true, false, true, false, false, false, false, false] rfl rfl (take_ofW HT_.out HW_.out (by kernel_rfl)) (fun _ _ _ h => h) (Or.inl ⟨by rfl, ?_⟩) hHeld ?_ ?_
                         rotate_left
                         ·rintro w' ⟨s0, s1, s2, s3, s4, s5, s6, s7, s8⟩
                          go_simp
                          with_reducible rfl
                         rotate_left
                         ·simp only [Act.put, List.setIfInBounds_toArray, List.set_cons_zero, List.set_cons_succ, i64_w, i32_w]
                          rfl
                         refine take_ (i := 9) (N := some 169) (v := ?_) (a' := ?_) #[true, true, true, true, true, true, true, true, true, true, true, false, false, false, false, false] rfl rfl (take_ofW HT_.out HW_.out (by kernel_rfl)) (fun _ _ _ h => h) (Or.inl ⟨by rfl, ?_⟩) hHeld ?_ ?_
                         rotate_left
                         ·rintro w' ⟨s0, s1, s2, s3, s4, s5, s6, s7, s8⟩
                          go_simp
                          with_reducible rfl
                         rotate_left
                         ·simp only [Act.put, List.setIfInBounds_toArray, List.set_cons_zero, List.set_cons_succ, i64_w, i32_w]
                          rfl
                         refine pure_ (i := 11) (N := some 171) (v := ?_) (a' := ?_) #[true, true, true, true, true, true, true, true, true, true, true, true, false, false, false, false] rfl rfl (any_of HT_.out (by kernel_rfl)) (fun _ _ _ h => h) (Or.inl ⟨by rfl, ?_⟩) ?_ ?_
                         rotate_left
                         ·intro w'
                          go_simp
                          with_reducible rfl
                         rotate_left
                         ·simp only [Act.put, List.setIfInBounds_toArray, List.set_cons_zero, List.set_cons_succ, i64_w, i32_w]
                          rfl
                         refine take_ (i := 12) (N := some 172) (v := ?_) (a' := ?_) #[true, true, true, true, true, true, true, true, true, true, true, true, true, false, false, false] rfl rfl (take_ofW HT_.out HW_.out (by kernel_rfl)) (fun _ _ _ h => h) (Or.inl ⟨by rfl, ?_⟩) hHeld ?_ ?_
                         rotate_left
                         ·rintro w' ⟨s0, s1, s2, s3, s4, s5, s6, s7, s8⟩
                          go_simp
                          with_reducible rfl
                         rotate_left
                         ·simp only [Act.put, List.setIfInBounds_toArray, List.set_cons_zero, List.set_cons_succ, i64_w, i32_w]
                          rfl
                         refine one_ (i := 13) (N := some 173) #[true, true, true, true, true, true, true, true, true, true, true, true, true, true, false, false] rfl rfl (one_of HT_.out (by kernel_rfl)) (by decide) (fun K hK => ?_)
                         refine goes_ Try.func25 (by kernel_rfl) rfl #[.int .i64 (rd l0_1 x157_6), .int .i64 (rd l0_3 x157_6)] (by rfl) rfl rfl (by (try simp only [List.map_toArray, List.map_cons, List.map_nil]); first | done | rfl | (simp only [List.length_drop, List.length_take]; rfl)) ?_
                         with_reducible refine (athanorref01_Mul.calls k6 (rd l0_1 x157_6) (rd l0_3 x157_6) t361 _ A127.out).mono ?_
                         rintro e w133 ⟨rfl, hb⟩
                         refine ⟨_, rfl, ?_⟩
                         have n0_ := aM (Kd.R_below (by (with_reducible repeat (first|apply rA|apply rN|apply rD)); exact HO_339000.out) hb)
                         have n1_ := aM (Kd.R_below (by (with_reducible repeat (first|apply rA|apply rN|apply rD)); exact HO_339001.out) hb)
                         have n2_ := aM (Kd.R_below (by (with_reducible repeat (first|apply rA|apply rN|apply rD)); exact HO_347000.out) hb)
                         have n3_ := aM (Kd.R_below (by (with_reducible repeat (first|apply rA|apply rN|apply rD)); exact HO_347001.out) hb)
                         have n4_ := aM (blk_below (g := gb327) (o := .cells #[.slice A0_0 l0_0.length c0_0, .slice (some ad359) l0_1.length c0_1, .slice A0_2 l0_2.length c0_2, .slice (some ad360) l0_3.length c0_3, .int .i64 a0_4, .int .i64 a0_5, .int .i64 a0_6] 47 (0, 0)) (by (with_reducible repeat (first|apply kN|apply kD|apply kA)); exact BK327.out) hb)
                         have n5_ := aM (blk_below (g := gb338) (o := .cells #[.slice Ao24 t331.length co24, .slice Ao27 t334.length co27] 26 (0, 0)) (by (with_reducible repeat (first|apply kN|apply kD|apply kA)); exact BK338.out) hb)
                         have n6_ := aM (blk_below (g := gb346) (o := .cells #[.slice Ao31 t339.length co31, .slice Ao35 t342.length co35] 26 (0, 0)) (by (with_reducible repeat (first|apply kN|apply kD|apply kA)); exact BK346.out) hb)
                         have n7_ := aM (below_step (by repeat (first | (with_reducible first|exact HB.out|apply bA|apply bN|apply bD|refine bS ?_ GE327.out|refine bS ?_ GE338.out|refine bS ?_ GE346.out)|exact HB.out)) hb)
                         clear HO_339000
                         clear HO_339001
                         clear HO_347000
                         clear HO_347001
                         clear BK327
                         clear BK338
                         clear BK346
                         clear HB
                         have HO_339000 := n0_
                         have HO_339001 := n1_
                         have HO_347000 := n2_
                         have HO_347001 := n3_
                         have BK327 := n4_
                         have BK338 := n5_
                         have BK346 := n6_
                         have HB := n7_
                         clear n0_ n1_ n2_ n3_ n4_ n5_ n6_ n7_
                         (try clear hb)
                         skip
                         (try clear hk)
                         skip
                         refine hK.out _ _ ⟨(blk_cell BK327.out 0).trans rfl, (blk_cell BK327.out 1).trans rfl, (blk_cell BK327.out 2).trans rfl, (blk_cell BK327.out 3).trans rfl, (blk_cell BK327.out 4).trans rfl, (blk_cell BK327.out 5).trans rfl, (blk_cell BK327.out 6).trans rfl, ((HB.out.cell (World.block_lt_of_cell? w _ hw359_0)).trans hw359_0), ((HB.out.cell (World.block_lt_of_cell? w _ hw360_0)).trans hw360_0)⟩ (fun hHeld => ?_)
                         clear hK K
                         refine norm_ (a' := ?_) ?_ ?_
                         rotate_left
                         ·show Act.put _ (some 173) _ = _
                          simp only [Act.put, List.setIfInBounds_toArray, List.set_cons_zero, List.set_cons_succ, i64_w, i32_w]
                          rfl
                         refine one_ (i := 14) (N := some 174) #[true, true, true, true, true, true, true, true, true, true, true, true, true, true, true, false] rfl rfl (one_of HT_.out (by kernel_rfl)) (by decide) (fun K hK => ?_)
                         refine goes_ Try.func27 (by kernel_rfl) rfl #[.int .i64 x12_6, .int .i64 t361] (by rfl) rfl rfl (by (try simp only [List.map_toArray, List.map_cons, List.map_nil]); first | done | rfl | (simp only [List.length_drop, List.length_take]; rfl)) ?_
                         with_reducible refine (athanorref01_Add.calls k6 x12_6 t361 t362 _ A128.out).mono ?_
                         rintro e w' ⟨rfl, ⟨nd, rfl⟩⟩
                         refine ⟨_, rfl, ?_⟩
                         (try first|exact ⟨rfl, _, World.drewN_drewN _ _ _⟩|exact ⟨rfl, _, Eq.trans (World.drewN_drewN _ _ _) (congrArg (World.drewN _) (Nat.add_assoc _ _ _))⟩)
                         refine hK.out _ _ ⟨(blk_cell BK327.out 0).trans rfl, (blk_cell BK327.out 1).trans rfl, (blk_cell BK327.out 2).trans rfl, (blk_cell BK327.out 3).trans rfl, (blk_cell BK327.out 4).trans rfl, (blk_cell BK327.out 5).trans rfl, (blk_cell BK327.out 6).trans rfl, ((HB.out.cell (World.block_lt_of_cell? w _ hw359_0)).trans hw359_0), ((HB.out.cell (World.block_lt_of_cell? w _ hw360_0)).trans hw360_0)⟩ (fun hHeld => ?_)
                         clear hK K
                         refine norm_ (a' := ?_) ?_ ?_
                         rotate_left
                         ·show Act.put _ (some 174) _ = _
                          simp only [Act.put, List.setIfInBounds_toArray, List.set_cons_zero, List.set_cons_succ, i64_w, i32_w]
                          rfl
                         refine pure_ (i := 15) (N := some 12) (v := ?_) (a' := ?_) #[true, true, true, true, true, true, true, true, true, true, true, true, true, true, true, true] rfl rfl (any_of HT_.out (by kernel_rfl)) (fun _ _ _ h => h) (Or.inl ⟨by rfl, ?_⟩) ?_ ?_
                         rotate_left
                         ·intro w'
                          go_simp
                          with_reducible rfl
                         rotate_left
                         ·simp only [Act.put, List.setIfInBounds_toArray, List.set_cons_zero, List.set_cons_succ, i64_w, i32_w]
                          rfl
                         refine done_ (done_of HT_.out (by kernel_rfl)) ?_
                         have hnb134 := NB338_327.out
                         have hnc134 := NB327_338.out
                         have hnb135 := NB338_346.out
                         have hnc135 := NB346_338.out
                         have hcz136_0 : w133.cell? ⟨gb338, 0, none⟩ = some (.slice Ao24 t331.length co24) := (blk_cell BK338.out 0).trans rfl
                         have hcz136_1 : w133.cell? ⟨gb338, 1, none⟩ = some (.slice Ao27 t334.length co27) := (blk_cell BK338.out 1).trans rfl
                         have hfz136_0 := blk_frozen BK338.out 0
                         have hfz136_1 := blk_frozen BK338.out 1
                         have p363 : 0 ≤ (x157_6 : Int) := of_decide_eq_true (by first | (with_reducible assumption) | assumption)
                         have q363 : x157_6 < (t334.length : Int) := of_decide_eq_true (by first | (with_reducible assumption) | assumption)
                         obtain ⟨ad363, e363, hx363_0⟩ := Kd.at_int (Kd.R_reads' HO_339001.out).2.2 x157_6 p363 q363
                         cases e363
                         replace p363 := eq_true p363
                         replace q363 := eq_true q363
                         have hnb137 := NB327_346.out
                         have hnc137 := NB346_327.out
                         have hcz138_0 : w133.cell? ⟨gb327, 0, none⟩ = some (.slice A0_0 l0_0.length c0_0) := (blk_cell BK327.out 0).trans rfl
                         have hcz138_1 : w133.cell? ⟨gb327, 1, none⟩ = some (.slice (some ad359) l0_1.length c0_1) := (blk_cell BK327.out 1).trans rfl
                         have hcz138_2 : w133.cell? ⟨gb327, 2, none⟩ = some (.slice A0_2 l0_2.length c0_2) := (blk_cell BK327.out 2).trans rfl
                         have hcz138_3 : w133.cell? ⟨gb327, 3, none⟩ = some (.slice (some ad360) l0_3.length c0_3) := (blk_cell BK327.out 3).trans rfl
                         have hcz138_4 : w133.cell? ⟨gb327, 4, none⟩ = some (.int .i64 a0_4) := (blk_cell BK327.out 4).trans rfl
                         have hcz138_5 : w133.cell? ⟨gb327, 5, none⟩ = some (.int .i64 a0_5) := (blk_cell BK327.out 5).trans rfl
                         have hcz138_6 : w133.cell? ⟨gb327, 6, none⟩ = some (.int .i64 a0_6) := (blk_cell BK327.out 6).trans rfl
                         have hfz138_0 := blk_frozen BK327.out 0
                         have hfz138_1 := blk_frozen BK327.out 1
                         have hfz138_2 := blk_frozen BK327.out 2
                         have hfz138_3 := blk_frozen BK327.out 3
                         have hfz138_4 := blk_frozen BK327.out 4
                         have hfz138_5 := blk_frozen BK327.out 5
                         have hfz138_6 := blk_frozen BK327.out 6
                         have p364 : 0 ≤ (x157_6 : Int) := of_decide_eq_true (by first | (with_reducible assumption) | assumption)
                         have q364 : x157_6 < (l0_1.length : Int) := of_decide_eq_true (by first | (with_reducible assumption) | assumption)
                         obtain ⟨ad364, e364, hx364_0⟩ := Kd.at_int HR0_1.out x157_6 p364 q364
                         obtain rfl : ad359 = ad364 := (by injection e364)
                         replace hx364_0 := (HB.out.cell (World.block_lt_of_cell? w _ hx364_0)).trans hx364_0
                         replace p364 := eq_true p364
                         replace q364 := eq_true q364
                         have p365 : 0 ≤ (x157_6 : Int) := of_decide_eq_true (by first | (with_reducible assumption) | assumption)
                         have q365 : x157_6 < (l0_3.length : Int) := of_decide_eq_true (by first | (with_reducible assumption) | assumption)
                         obtain ⟨ad365, e365, hx365_0⟩ := Kd.at_int HR0_3.out x157_6 p365 q365
                         obtain rfl : ad360 = ad365 := (by injection e365)
                         replace hx365_0 := (HB.out.cell (World.block_lt_of_cell? w _ hx365_0)).trans hx365_0
                         replace p365 := eq_true p365
                         replace q365 := eq_true q365
                         iterate 7 (first | go_quiet (first | (go_at_call 27; (with_reducible refine (athanorref01_Add.calls k6 (rd l0_1 x157_6) (rd l0_3 x157_6) t366 _ A130.out).mono ?_); rintro e w' ⟨rfl, ⟨nd, rfl⟩⟩; (try first|exact ⟨rfl, _, World.drewN_drewN _ _ _⟩|exact ⟨rfl, _, Eq.trans (World.drewN_drewN _ _ _) (congrArg (World.drewN _) (Nat.add_assoc _ _ _))⟩))) | try go_wp2_with (first | (go_at_call 27; (with_reducible refine (athanorref01_Add.calls k6 (rd l0_1 x157_6) (rd l0_3 x157_6) t366 _ A130.out).mono ?_); rintro e w' ⟨rfl, ⟨nd, rfl⟩⟩; (try first|exact ⟨rfl, _, World.drewN_drewN _ _ _⟩|exact ⟨rfl, _, Eq.trans (World.drewN_drewN _ _ _) (congrArg (World.drewN _) (Nat.add_assoc _ _ _))⟩))))
                         go_roundg k6
                         case measure => have := HJ2.out; have := HJ19.out; have := HK3.out; have := HJ72.out; have := HJ105.out; have := HK6.out; omega
                         case rel => exact ⟨(t362), (wrap64 (x157_6 + 1)), (by first | rfl | (simp; done) | (simp [*]; done)), (by first | rfl | (simp; done) | (simp [*]; done)), H', ⟨by have := HJ2.out; have := HJ19.out; have := HK3.out; have := HJ72.out; have := HJ105.out; have := HK6.out; omega⟩, ⟨by (with_reducible repeat (first|apply rA|apply rN|apply rD)); exact HO_339000.out⟩, ⟨by (with_reducible repeat (first|apply rA|apply rN|apply rD)); exact HO_339001.out⟩, ⟨by (with_reducible repeat (first|apply rA|apply rN|apply rD)); exact HO_347000.out⟩, ⟨by (with_reducible repeat (first|apply rA|apply rN|apply rD)); exact HO_347001.out⟩, ⟨by (with_reducible repeat (first|apply kN|apply kD|apply kA)); exact BK327.out⟩, ⟨by (with_reducible repeat (first|apply kN|apply kD|apply kA)); exact BK338.out⟩, ⟨by (with_reducible repeat (first|apply kN|apply kD|apply kA)); exact BK346.out⟩, ⟨by repeat (first | (with_reducible first|exact HB.out|apply bA|apply bN|apply bD|refine bS ?_ GE327.out|refine bS ?_ GE338.out|refine bS ?_ GE346.out)|exact HB.out)⟩⟩
                       ·rw [if_neg c131] at H
                        exact absurd H (by simp)
                      ·rw [if_neg c129] at H
                       exact absurd H (by simp)
                     ·rw [if_neg c126] at H
                      exact absurd H (by simp)
                    ·rw [if_neg c125] at H
                     exact absurd H (by simp)
                   ·rw [if_neg c124] at H
                    exact absurd H (by simp)
                  ·rw [if_neg c123] at H
                   have c123b0 : decide (x157_6 < (t334.length : Int)) = false := decide_eq_false c123
                   clear c123
                   by_cases c139 : t337 = 0
                   ·rw [if_pos c139] at H
                    have c139b0 : (t337 == 0) = true := beq_iff_eq.mpr c139
                    have c139b1 : (t337 != 0) = false := bne_eq_false_iff_eq.mpr c139
                    clear c139
                    by_cases c140 : t348 = 0
                    ·rw [if_pos c140] at H
                     have c140b0 : (t348 == 0) = true := beq_iff_eq.mpr c140
                     have c140b1 : (t348 != 0) = false := bne_eq_false_iff_eq.mpr c140
                     clear c140
                     by_cases c141 : t347 = x12_6
                     ·rw [if_pos c141] at H
                      have c141b0 : (t347 == x12_6) = true := beq_iff_eq.mpr c141
                      have c141b1 : (t347 != x12_6) = false := bne_eq_false_iff_eq.mpr c141
                      clear c141
                      replace H := Option.bind_eq_some_iff.mp H
                      obtain ⟨t357, A1420, H⟩ := H
                      replace H : (if t357 = true then ((athanorlaw04_awake.f k6).bind fun t358 => (some t358)) else (none)) = some r := H
                      have A142 := Aside0.mk A1420
                      clear A1420
                      by_cases c143 : t357 = true
                      ·subst c143
                       have H1 : ((athanorlaw04_awake.f k6).bind fun t358 => (some t358)) = some r := by rw [if_pos rfl] at H; exact H
                       clear H
                       have H := H1
                       clear H1
                       replace H := Option.bind_eq_some_iff.mp H
                       obtain ⟨t358, A1440, H⟩ := H
                       replace H : (some t358) = some r := H
                       have A144 := Aside0.mk A1440
                       clear A1440
                       as_aux_lemma =>
                        obtain rfl := Option.some.inj H
                        have hnb145 := NB338_327.out
                        have hnc145 := NB327_338.out
                        have hnb146 := NB338_346.out
                        have hnc146 := NB346_338.out
                        have hcz147_0 : wr.cell? ⟨gb338, 0, none⟩ = some (.slice Ao24 t331.length co24) := (blk_cell BK338.out 0).trans rfl
                        have hcz147_1 : wr.cell? ⟨gb338, 1, none⟩ = some (.slice Ao27 t334.length co27) := (blk_cell BK338.out 1).trans rfl
                        have hfz147_0 := blk_frozen BK338.out 0
                        have hfz147_1 := blk_frozen BK338.out 1
                        have hnb148 := NB327_346.out
                        have hnc148 := NB346_327.out
                        have hcz149_0 : wr.cell? ⟨gb327, 0, none⟩ = some (.slice A0_0 l0_0.length c0_0) := (blk_cell BK327.out 0).trans rfl
                        have hcz149_1 : wr.cell? ⟨gb327, 1, none⟩ = some (.slice A0_1 l0_1.length c0_1) := (blk_cell BK327.out 1).trans rfl
                        have hcz149_2 : wr.cell? ⟨gb327, 2, none⟩ = some (.slice A0_2 l0_2.length c0_2) := (blk_cell BK327.out 2).trans rfl
                        have hcz149_3 : wr.cell? ⟨gb327, 3, none⟩ = some (.slice A0_3 l0_3.length c0_3) := (blk_cell BK327.out 3).trans rfl
                        have hcz149_4 : wr.cell? ⟨gb327, 4, none⟩ = some (.int .i64 a0_4) := (blk_cell BK327.out 4).trans rfl
                        have hcz149_5 : wr.cell? ⟨gb327, 5, none⟩ = some (.int .i64 a0_5) := (blk_cell BK327.out 5).trans rfl
                        have hcz149_6 : wr.cell? ⟨gb327, 6, none⟩ = some (.int .i64 a0_6) := (blk_cell BK327.out 6).trans rfl
                        have hfz149_0 := blk_frozen BK327.out 0
                        have hfz149_1 := blk_frozen BK327.out 1
                        have hfz149_2 := blk_frozen BK327.out 2
                        have hfz149_3 := blk_frozen BK327.out 3
                        have hfz149_4 := blk_frozen BK327.out 4
                        have hfz149_5 := blk_frozen BK327.out 5
                        have hfz149_6 := blk_frozen BK327.out 6
                        iterate 7 (first | go_quiet (first | (go_at_call 18; (with_reducible refine (shape_Shape_Equal.calls k6 _ _ t331 _ _ l0_0 true _ ?side1 ?side2 ?side3 ?side4 A142.out).mono ?_); (case side1 => repeat (first|exact (Kd.R_reads' HO_339000.out).2.2 | with_reducible first|apply cA|apply cN|apply cD)); (case side2 => exact (Kd.R_reads' HO_339000.out).2.1); (case side3 => repeat (first|exact (Kd.C_below HR0_0.out HB.out) | with_reducible first|apply cA|apply cN|apply cD)); (case side4 => exact HC0_0.out); rintro e w' ⟨rfl, ⟨nd, rfl⟩⟩; (try first|exact ⟨rfl, _, World.drewN_drewN _ _ _⟩|exact ⟨rfl, _, Eq.trans (World.drewN_drewN _ _ _) (congrArg (World.drewN _) (Nat.add_assoc _ _ _))⟩)) | (go_at_call 9; (with_reducible refine (athanorlaw04_awake.calls k6  t358 _ A144.out).mono ?_); rintro e w150 ⟨rfl, hb⟩; have n0_ := aM (Kd.R_below (by (with_reducible repeat (first|apply rA|apply rN|apply rD)); exact HO_339000.out) hb); have n1_ := aM (Kd.R_below (by (with_reducible repeat (first|apply rA|apply rN|apply rD)); exact HO_339001.out) hb); have n2_ := aM (Kd.R_below (by (with_reducible repeat (first|apply rA|apply rN|apply rD)); exact HO_347000.out) hb); have n3_ := aM (Kd.R_below (by (with_reducible repeat (first|apply rA|apply rN|apply rD)); exact HO_347001.out) hb); have n4_ := aM (blk_below (g := gb327) (o := .cells #[.slice A0_0 l0_0.length c0_0, .slice A0_1 l0_1.length c0_1, .slice A0_2 l0_2.length c0_2, .slice A0_3 l0_3.length c0_3, .int .i64 a0_4, .int .i64 a0_5, .int .i64 a0_6] 47 (0, 0)) (by (with_reducible repeat (first|apply kN|apply kD|apply kA)); exact BK327.out) hb); have n5_ := aM (blk_below (g := gb338) (o := .cells #[.slice Ao24 t331.length co24, .slice Ao27 t334.length co27] 26 (0, 0)) (by (with_reducible repeat (first|apply kN|apply kD|apply kA)); exact BK338.out) hb); have n6_ := aM (blk_below (g := gb346) (o := .cells #[.slice Ao31 t339.length co31, .slice Ao35 t342.length co35] 26 (0, 0)) (by (with_reducible repeat (first|apply kN|apply kD|apply kA)); exact BK346.out) hb); have n7_ := aM (below_step (by repeat (first | (with_reducible first|exact HB.out|apply bA|apply bN|apply bD|refine bS ?_ GE327.out|refine bS ?_ GE338.out|refine bS ?_ GE346.out)|exact HB.out)) hb); clear HO_339000; clear HO_339001; clear HO_347000; clear HO_347001; clear BK327; clear BK338; clear BK346; clear HB; have HO_339000 := n0_; have HO_339001 := n1_; have HO_347000 := n2_; have HO_347001 := n3_; have BK327 := n4_; have BK338 := n5_; have BK346 := n6_; have HB := n7_; clear n0_ n1_ n2_ n3_ n4_ n5_ n6_ n7_; (try clear hb))) | try go_wp2_with (first | (go_at_call 18; (with_reducible refine (shape_Shape_Equal.calls k6 _ _ t331 _ _ l0_0 true _ ?side1 ?side2 ?side3 ?side4 A142.out).mono ?_); (case side1 => repeat (first|exact (Kd.R_reads' HO_339000.out).2.2 | with_reducible first|apply cA|apply cN|apply cD)); (case side2 => exact (Kd.R_reads' HO_339000.out).2.1); (case side3 => repeat (first|exact (Kd.C_below HR0_0.out HB.out) | with_reducible first|apply cA|apply cN|apply cD)); (case side4 => exact HC0_0.out); rintro e w' ⟨rfl, ⟨nd, rfl⟩⟩; (try first|exact ⟨rfl, _, World.drewN_drewN _ _ _⟩|exact ⟨rfl, _, Eq.trans (World.drewN_drewN _ _ _) (congrArg (World.drewN _) (Nat.add_assoc _ _ _))⟩)) | (go_at_call 9; (with_reducible refine (athanorlaw04_awake.calls k6  t358 _ A144.out).mono ?_); rintro e w150 ⟨rfl, hb⟩; have n0_ := aM (Kd.R_below (by (with_reducible repeat (first|apply rA|apply rN|apply rD)); exact HO_339000.out) hb); have n1_ := aM (Kd.R_below (by (with_reducible repeat (first|apply rA|apply rN|apply rD)); exact HO_339001.out) hb); have n2_ := aM (Kd.R_below (by (with_reducible repeat (first|apply rA|apply rN|apply rD)); exact HO_347000.out) hb); have n3_ := aM (Kd.R_below (by (with_reducible repeat (first|apply rA|apply rN|apply rD)); exact HO_347001.out) hb); have n4_ := aM (blk_below (g := gb327) (o := .cells #[.slice A0_0 l0_0.length c0_0, .slice A0_1 l0_1.length c0_1, .slice A0_2 l0_2.length c0_2, .slice A0_3 l0_3.length c0_3, .int .i64 a0_4, .int .i64 a0_5, .int .i64 a0_6] 47 (0, 0)) (by (with_reducible repeat (first|apply kN|apply kD|apply kA)); exact BK327.out) hb); have n5_ := aM (blk_below (g := gb338) (o := .cells #[.slice Ao24 t331.length co24, .slice Ao27 t334.length co27] 26 (0, 0)) (by (with_reducible repeat (first|apply kN|apply kD|apply kA)); exact BK338.out) hb); have n6_ := aM (blk_below (g := gb346) (o := .cells #[.slice Ao31 t339.length co31, .slice Ao35 t342.length co35] 26 (0, 0)) (by (with_reducible repeat (first|apply kN|apply kD|apply kA)); exact BK346.out) hb); have n7_ := aM (below_step (by repeat (first | (with_reducible first|exact HB.out|apply bA|apply bN|apply bD|refine bS ?_ GE327.out|refine bS ?_ GE338.out|refine bS ?_ GE346.out)|exact HB.out)) hb); clear HO_339000; clear HO_339001; clear HO_347000; clear HO_347001; clear BK327; clear BK338; clear BK346; clear HB; have HO_339000 := n0_; have HO_339001 := n1_; have HO_347000 := n2_; have HO_347001 := n3_; have BK327 := n4_; have BK338 := n5_; have BK346 := n6_; have HB := n7_; clear n0_ n1_ n2_ n3_ n4_ n5_ n6_ n7_; (try clear hb))))
                        go_ret
                        exact ⟨by first | rfl | (simp [errW_none, errW_some] <;> rfl) | (simp [*, errW_none, errW_some] <;> rfl), by repeat (first | (with_reducible first|exact HB.out|apply bA|apply bN|apply bD|refine bS ?_ GE327.out|refine bS ?_ GE338.out|refine bS ?_ GE346.out)|exact HB.out)⟩
                      ·replace c143 := Bool.eq_false_iff.mpr c143
                       subst c143
                       have H1 : (none) = some r := by rw [if_neg (show ¬ (false = true) by decide)] at H; exact H
                       clear H
                       have H := H1
                       clear H1
                       exact absurd H (by simp)
                     ·rw [if_neg c141] at H
                      exact absurd H (by simp)
                    ·rw [if_neg c140] at H
                     exact absurd H (by simp)
                   ·rw [if_neg c139] at H
                    exact absurd H (by simp)

/-- THE ONE PURE STATEMENT of athanorlaw04_TensorSums: yours. -/
def athanorlaw04_TensorSums.Pure : Prop := ∀ (x0 : S47) (x1 : Int), good47 x0 → (Lit.int .i64 x1).wf = true → ∃ k, athanorlaw04_TensorSums.f k x0.f0.f0 x0.f0.f1 x0.f1.f0 x0.f1.f1 x0.f2 x0.f3 x0.f4 x1 = some true

end Go.Proofs.Ytmekcfmhaflghaa.PTenS
