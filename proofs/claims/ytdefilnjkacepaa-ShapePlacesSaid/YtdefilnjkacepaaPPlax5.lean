-- printed by wip/tools/xp.py of this project (not trusted: Lean checks it)
import Derived.Test.YtdefilnjkacepaaPPlax0
import Derived.Test.YtdefilnjkacepaaPPlax4
namespace Go.Proofs.Ytdefilnjkacepaa.PPla
open Go.RowKit Go.Proofs.YtdefilnjkacepaaW.PrintWords Go.Proofs.YtdefilnjkacepaaW.PrintLast Go.Proofs.YtdefilnjkacepaaW.PrintMore Go.Proofs.Ytdefilnjkacepaa.XW
attribute [local go_sem] max2_int min2_int max_two min_two max_three min_three max_four min_four max_five min_five   -- for this text's walks alone
set_option linter.unusedVariables false
set_option linter.unusedSimpArgs false

/-! ### athanorlaw03_ShapePlaces: function 7 -/
mutual
def athanorlaw03_ShapePlaces.j0 : Nat → List Int → List Int → Int → Bool → Option (Bool)
 | 0, _, _, _, _ => none
 | k + 1, x0, x1, x2, x25 => if x25 = true then ((athanorlaw03_awake.f k).bind fun t192 => (some t192)) else ((shape_Shape_Place.f k x0 x1).bind fun bt193 => ((shape_Shape_At.f k x0 x2).bind fun bt195 => ((athanorref03_Right.f k x0).bind fun t199 => (if t199 = true then (athanorlaw03_ShapePlaces.l0 k x0 x1 x2 bt193.1 bt193.2 bt195.1 bt195.2 ((x1.length : Int) == (x0.length : Int)) 0 (x1.length : Int) 0) else (if bt193.2 = 20 then (if bt193.1 = 0 then (if bt195.2 = 20 then (if (bt195.1.length : Int) = 0 then ((athanorlaw03_awake.f k).bind fun t200 => (some t200)) else (none)) else (none)) else (none)) else (none))))))
def athanorlaw03_ShapePlaces.l0 : Nat → List Int → List Int → Int → Int → Int → List Int → Int → Bool → Int → Int → Int → Option (Bool)
 | 0, _, _, _, _, _, _, _, _, _, _, _ => none
 | k + 1, x0, x1, x2, x7, x8, x9, x10, x11, x12, x66, x67 => if x67 < x66 then (if x11 = true then (if 0 ≤ x67 then (if x67 < (x1.length : Int) then (if (rd x1 x67) ≥ 0 then (if x67 < (x0.length : Int) then (athanorlaw03_ShapePlaces.l0 k x0 x1 x2 x7 x8 x9 x10 (decide ((rd x1 x67) < (rd x0 x67))) (wrap64 ((wrap64 (x12 * (rd x0 x67))) + (rd x1 x67))) x66 (wrap64 (x67 + 1))) else (none)) else (if x67 < (x0.length : Int) then (athanorlaw03_ShapePlaces.l0 k x0 x1 x2 x7 x8 x9 x10 false (wrap64 ((wrap64 (x12 * (rd x0 x67))) + (rd x1 x67))) x66 (wrap64 (x67 + 1))) else (none))) else (none)) else (none)) else (athanorlaw03_ShapePlaces.l0 k x0 x1 x2 x7 x8 x9 x10 x11 x12 x66 (wrap64 (x67 + 1)))) else (if x11 = true then ((shape_Shape_At.f k x0 x7).bind fun bt208 => (if x8 = 0 then (if x7 = x12 then (if bt208.2 = 0 then ((athanorref03_Same.f k bt208.1 x1).bind fun t212 => (if t212 = true then (athanorlaw03_ShapePlaces.j2 k x0 x2 x9 x10) else (none))) else (none)) else (none)) else (none))) else (if x8 = 11 then (if x7 = 0 then (athanorlaw03_ShapePlaces.j2 k x0 x2 x9 x10) else (none)) else (none)))
def athanorlaw03_ShapePlaces.j2 : Nat → List Int → Int → List Int → Int → Option (Bool)
 | 0, _, _, _, _ => none
 | k + 1, x0, x2, x9, x10 => if x2 < 0 then (athanorlaw03_ShapePlaces.j3 k x0 x2 x9 x10 true) else ((athanorref03_Size.f k x0).bind fun t213 => (athanorlaw03_ShapePlaces.j3 k x0 x2 x9 x10 (decide (x2 ≥ t213))))
def athanorlaw03_ShapePlaces.j3 : Nat → List Int → Int → List Int → Int → Bool → Option (Bool)
 | 0, _, _, _, _, _ => none
 | k + 1, x0, x2, x9, x10, x136 => if x136 = true then (if x10 = 11 then (if (x9.length : Int) = 0 then ((athanorlaw03_awake.f k).bind fun t214 => (some t214)) else (none)) else (none)) else ((shape_Shape_Place.f k x0 x9).bind fun bt215 => (if x10 = 0 then (if bt215.2 = 0 then (if bt215.1 = x2 then ((athanorlaw03_awake.f k).bind fun t217 => (some t217)) else (none)) else (none)) else (none)))
end
def athanorlaw03_ShapePlaces.f (k : Nat) (l0 : List Int) (l1 : List Int) (a2 : Int) : Option (Bool) := if (l0.length : Int) > 50 then (athanorlaw03_ShapePlaces.j0 k l0 l1 a2 true) else (athanorlaw03_ShapePlaces.j0 k l0 l1 a2 (decide ((l1.length : Int) > 50)))
theorem athanorlaw03_ShapePlaces.mono_l : ∀ k, (∀ y0 y1 y2 y3, LeO (athanorlaw03_ShapePlaces.j0 k y0 y1 y2 y3) (athanorlaw03_ShapePlaces.j0 (k + 1) y0 y1 y2 y3)) ∧ (∀ y0 y1 y2 y3 y4 y5 y6 y7 y8 y9 y10, LeO (athanorlaw03_ShapePlaces.l0 k y0 y1 y2 y3 y4 y5 y6 y7 y8 y9 y10) (athanorlaw03_ShapePlaces.l0 (k + 1) y0 y1 y2 y3 y4 y5 y6 y7 y8 y9 y10)) ∧ (∀ y0 y1 y2 y3, LeO (athanorlaw03_ShapePlaces.j2 k y0 y1 y2 y3) (athanorlaw03_ShapePlaces.j2 (k + 1) y0 y1 y2 y3)) ∧ (∀ y0 y1 y2 y3 y4, LeO (athanorlaw03_ShapePlaces.j3 k y0 y1 y2 y3 y4) (athanorlaw03_ShapePlaces.j3 (k + 1) y0 y1 y2 y3 y4))
 | 0 => ⟨fun _ _ _ _ r h => by simp [athanorlaw03_ShapePlaces.j0] at h, fun _ _ _ _ _ _ _ _ _ _ _ r h => by simp [athanorlaw03_ShapePlaces.l0] at h, fun _ _ _ _ r h => by simp [athanorlaw03_ShapePlaces.j2] at h, fun _ _ _ _ _ r h => by simp [athanorlaw03_ShapePlaces.j3] at h⟩
 | k + 1 => by
  obtain ⟨ih0, ih1, ih2, ih3⟩ := athanorlaw03_ShapePlaces.mono_l k
  refine ⟨?_, ?_, ?_, ?_⟩
  ·intro y0 y1 y2 y3
   unfold athanorlaw03_ShapePlaces.j0
   repeat' first
   | (with_reducible exact ih0 _ _ _ _)
   | (with_reducible exact ih1 _ _ _ _ _ _ _ _ _ _ _)
   | (with_reducible exact ih2 _ _ _ _)
   | (with_reducible exact ih3 _ _ _ _ _)
   | (with_reducible exact athanorlaw03_awake.mono _)
   | (with_reducible exact athanorref03_Right.mono _ _)
   | (with_reducible exact athanorref03_Same.mono _ _ _)
   | (with_reducible exact athanorref03_Size.mono _ _)
   | (with_reducible exact shape_Shape_At.mono _ _ _)
   | (with_reducible exact shape_Shape_Place.mono _ _ _)
   | (with_reducible exact LeO.refl _)
   | (with_reducible exact LeO.none _)
   | (with_reducible refine LeO.ite ?_ ?_)
   | (with_reducible refine LeO.bind ?_ (fun _ => ?_))
   | exact ih0 _ _ _ _
   | exact ih1 _ _ _ _ _ _ _ _ _ _ _
   | exact ih2 _ _ _ _
   | exact ih3 _ _ _ _ _
   | exact athanorlaw03_awake.mono _
   | exact athanorref03_Right.mono _ _
   | exact athanorref03_Same.mono _ _ _
   | exact athanorref03_Size.mono _ _
   | exact shape_Shape_At.mono _ _ _
   | exact shape_Shape_Place.mono _ _ _
   | exact LeO.none _
   | refine LeO.ite ?_ ?_
   | refine LeO.bind ?_ (fun _ => ?_)
  ·intro y0 y1 y2 y3 y4 y5 y6 y7 y8 y9 y10
   unfold athanorlaw03_ShapePlaces.l0
   repeat' first
   | (with_reducible exact ih0 _ _ _ _)
   | (with_reducible exact ih1 _ _ _ _ _ _ _ _ _ _ _)
   | (with_reducible exact ih2 _ _ _ _)
   | (with_reducible exact ih3 _ _ _ _ _)
   | (with_reducible exact athanorlaw03_awake.mono _)
   | (with_reducible exact athanorref03_Right.mono _ _)
   | (with_reducible exact athanorref03_Same.mono _ _ _)
   | (with_reducible exact athanorref03_Size.mono _ _)
   | (with_reducible exact shape_Shape_At.mono _ _ _)
   | (with_reducible exact shape_Shape_Place.mono _ _ _)
   | (with_reducible exact LeO.refl _)
   | (with_reducible exact LeO.none _)
   | (with_reducible refine LeO.ite ?_ ?_)
   | (with_reducible refine LeO.bind ?_ (fun _ => ?_))
   | exact ih0 _ _ _ _
   | exact ih1 _ _ _ _ _ _ _ _ _ _ _
   | exact ih2 _ _ _ _
   | exact ih3 _ _ _ _ _
   | exact athanorlaw03_awake.mono _
   | exact athanorref03_Right.mono _ _
   | exact athanorref03_Same.mono _ _ _
   | exact athanorref03_Size.mono _ _
   | exact shape_Shape_At.mono _ _ _
   | exact shape_Shape_Place.mono _ _ _
   | exact LeO.none _
   | refine LeO.ite ?_ ?_
   | refine LeO.bind ?_ (fun _ => ?_)
  ·intro y0 y1 y2 y3
   unfold athanorlaw03_ShapePlaces.j2
   repeat' first
   | (with_reducible exact ih0 _ _ _ _)
   | (with_reducible exact ih1 _ _ _ _ _ _ _ _ _ _ _)
   | (with_reducible exact ih2 _ _ _ _)
   | (with_reducible exact ih3 _ _ _ _ _)
   | (with_reducible exact athanorlaw03_awake.mono _)
   | (with_reducible exact athanorref03_Right.mono _ _)
   | (with_reducible exact athanorref03_Same.mono _ _ _)
   | (with_reducible exact athanorref03_Size.mono _ _)
   | (with_reducible exact shape_Shape_At.mono _ _ _)
   | (with_reducible exact shape_Shape_Place.mono _ _ _)
   | (with_reducible exact LeO.refl _)
   | (with_reducible exact LeO.none _)
   | (with_reducible refine LeO.ite ?_ ?_)
   | (with_reducible refine LeO.bind ?_ (fun _ => ?_))
   | exact ih0 _ _ _ _
   | exact ih1 _ _ _ _ _ _ _ _ _ _ _
   | exact ih2 _ _ _ _
   | exact ih3 _ _ _ _ _
   | exact athanorlaw03_awake.mono _
   | exact athanorref03_Right.mono _ _
   | exact athanorref03_Same.mono _ _ _
   | exact athanorref03_Size.mono _ _
   | exact shape_Shape_At.mono _ _ _
   | exact shape_Shape_Place.mono _ _ _
   | exact LeO.none _
   | refine LeO.ite ?_ ?_
   | refine LeO.bind ?_ (fun _ => ?_)
  ·intro y0 y1 y2 y3 y4
   unfold athanorlaw03_ShapePlaces.j3
   repeat' first
   | (with_reducible exact ih0 _ _ _ _)
   | (with_reducible exact ih1 _ _ _ _ _ _ _ _ _ _ _)
   | (with_reducible exact ih2 _ _ _ _)
   | (with_reducible exact ih3 _ _ _ _ _)
   | (with_reducible exact athanorlaw03_awake.mono _)
   | (with_reducible exact athanorref03_Right.mono _ _)
   | (with_reducible exact athanorref03_Same.mono _ _ _)
   | (with_reducible exact athanorref03_Size.mono _ _)
   | (with_reducible exact shape_Shape_At.mono _ _ _)
   | (with_reducible exact shape_Shape_Place.mono _ _ _)
   | (with_reducible exact LeO.refl _)
   | (with_reducible exact LeO.none _)
   | (with_reducible refine LeO.ite ?_ ?_)
   | (with_reducible refine LeO.bind ?_ (fun _ => ?_))
   | exact ih0 _ _ _ _
   | exact ih1 _ _ _ _ _ _ _ _ _ _ _
   | exact ih2 _ _ _ _
   | exact ih3 _ _ _ _ _
   | exact athanorlaw03_awake.mono _
   | exact athanorref03_Right.mono _ _
   | exact athanorref03_Same.mono _ _ _
   | exact athanorref03_Size.mono _ _
   | exact shape_Shape_At.mono _ _ _
   | exact shape_Shape_Place.mono _ _ _
   | exact LeO.none _
   | refine LeO.ite ?_ ?_
   | refine LeO.bind ?_ (fun _ => ?_)
theorem athanorlaw03_ShapePlaces.mono : ∀ a0 a1 a2 k, LeO (athanorlaw03_ShapePlaces.f k a0 a1 a2) (athanorlaw03_ShapePlaces.f (k + 1) a0 a1 a2) := by
 intro a0 a1 a2 k
 obtain ⟨ih0, ih1, ih2, ih3⟩ := athanorlaw03_ShapePlaces.mono_l k
 unfold athanorlaw03_ShapePlaces.f
 repeat' first
   | (with_reducible exact ih0 _ _ _ _)
   | (with_reducible exact ih1 _ _ _ _ _ _ _ _ _ _ _)
   | (with_reducible exact ih2 _ _ _ _)
   | (with_reducible exact ih3 _ _ _ _ _)
   | (with_reducible exact athanorlaw03_awake.mono _)
   | (with_reducible exact athanorref03_Right.mono _ _)
   | (with_reducible exact athanorref03_Same.mono _ _ _)
   | (with_reducible exact athanorref03_Size.mono _ _)
   | (with_reducible exact shape_Shape_At.mono _ _ _)
   | (with_reducible exact shape_Shape_Place.mono _ _ _)
   | (with_reducible exact LeO.refl _)
   | (with_reducible exact LeO.none _)
   | (with_reducible refine LeO.ite ?_ ?_)
   | (with_reducible refine LeO.bind ?_ (fun _ => ?_))
   | exact ih0 _ _ _ _
   | exact ih1 _ _ _ _ _ _ _ _ _ _ _
   | exact ih2 _ _ _ _
   | exact ih3 _ _ _ _ _
   | exact athanorlaw03_awake.mono _
   | exact athanorref03_Right.mono _ _
   | exact athanorref03_Same.mono _ _ _
   | exact athanorref03_Size.mono _ _
   | exact shape_Shape_At.mono _ _ _
   | exact shape_Shape_Place.mono _ _ _
   | exact LeO.none _
   | refine LeO.ite ?_ ?_
   | refine LeO.bind ?_ (fun _ => ?_)
set_option maxHeartbeats 8000000 in
set_option maxRecDepth 100000 in
theorem athanorlaw03_ShapePlaces.calls (k : Nat) (A0 : Option Addr) (c0 : Nat) (l0 : List Int) (A1 : Option Addr) (c1 : Nat) (l1 : List Int) (a2 : Int) (r : Bool) (w : World) (hr0 : Kd.C (Kd.int .i64) w A0 l0.length l0) (hc0 : l0.length ≤ c0) (hr1 : Kd.C (Kd.int .i64) w A1 l1.length l1) (hc1 : l1.length ≤ c1) (h : athanorlaw03_ShapePlaces.f k l0 l1 a2 = some r) :
  Calls Try.prog 7 #[.slice A0 l0.length c0, .slice A1 l1.length c1, .int .i64 a2] w fun e w' => e = .returned (.bool r) ∧ Below w.heap.size w w' := by
 have HR0 := Aside0.mk hr0
 have HC0 := Aside0.mk hc0
 clear hr0 hc0
 have HR1 := Aside0.mk hr1
 have HC1 := Aside0.mk hc1
 clear hr1 hc1
 have HB := Aside0.mk (Below.refl w.heap.size w)
 have H : (if (l0.length : Int) > 50 then (athanorlaw03_ShapePlaces.j0 k l0 l1 a2 true) else (athanorlaw03_ShapePlaces.j0 k l0 l1 a2 (decide ((l1.length : Int) > 50)))) = some r := h
 clear h
 have HC4 := Aside0.mk H
 clear H
 go_enter Try.func7, Try.ntmps7
 go_upto_region 1 with (fail)
 repeat (go_quiet (fail); go_upto_region 1 with (fail))
 go_cut [25] (fun v25 wc => ∃ (kq : Nat) (x25_3 : Bool), v25 = .bool x25_3 ∧ Aside0 (athanorlaw03_ShapePlaces.j0 kq l0 l1 a2 x25_3 = some r) ∧ Aside0 (kq ≤ k) ∧ Aside0 (Below w.heap.size w wc))
 case first =>
  have H := HC4.out
  clear HC4
  by_cases c5 : (l0.length : Int) > 50
  ·rw [if_pos c5] at H
   have c5b0 : decide (50 < (l0.length : Int)) = true := decide_eq_true c5
   have c5b1 : decide (50 < l0.length) = true := decide_eq_true (by omega)
   clear c5
   (first | rw [c5b0] | (simp only [i64_w, i32_w]; rw [c5b0]) | skip)
   as_aux_lemma =>
    have H' := Aside0.mk H
    clear H
    go_wp2
    repeat (go_quiet (fail); try go_wp2)
    go_meet
    case rel => exact ⟨_, (true), (by first | rfl | (simp; done) | (simp [*]; done)), H', ⟨by first | omega|exact Nat.le_refl _⟩, ⟨by repeat (first | (with_reducible first|exact HB.out|apply bA|apply bN|apply bD)|exact HB.out)⟩⟩
  ·rw [if_neg c5] at H
   have c5b0 : decide (50 < (l0.length : Int)) = false := decide_eq_false c5
   have c5b1 : decide (50 < l0.length) = false := decide_eq_false (by omega)
   clear c5
   (first | rw [c5b0] | (simp only [i64_w, i32_w]; rw [c5b0]) | skip)
   as_aux_lemma =>
    have H' := Aside0.mk H
    clear H
    go_wp2
    repeat (go_quiet (fail); try go_wp2)
    go_meet
    case rel => exact ⟨_, (decide ((l1.length : Int) > 50)), (by first | rfl | (simp; done) | (simp [*]; done)), H', ⟨by first | omega|exact Nat.le_refl _⟩, ⟨by repeat (first | (with_reducible first|exact HB.out|apply bA|apply bN|apply bD)|exact HB.out)⟩⟩
 case rest =>
  clear HC4
  (try clear c1); (try clear p2); (try clear c5); (try clear c5b0); (try clear c5b1)
  obtain ⟨kq, x25_3, rfl, HA, HJ3, HB⟩ := hcut
  cases kq with
  | zero => exact absurd HA.out (by simp [athanorlaw03_ShapePlaces.j0])
  | succ kj3 =>
   have H := HA.out
   clear HA
   simp only [athanorlaw03_ShapePlaces.j0] at H
   by_cases c6 : x25_3 = true
   ·subst c6
    have H1 : ((athanorlaw03_awake.f kj3).bind fun t192 => (some t192)) = some r := by rw [if_pos rfl] at H; exact H
    clear H
    have H := H1
    clear H1
    replace H := Option.bind_eq_some_iff.mp H
    obtain ⟨t192, A70, H⟩ := H
    replace H : (some t192) = some r := H
    have A7 := Aside0.mk A70
    clear A70
    as_aux_lemma =>
     obtain rfl := Option.some.inj H
     go_wp2_with (first | (go_at_call 9; (with_reducible refine (athanorlaw03_awake.calls kj3  t192 _ A7.out).mono ?_); rintro e w8 ⟨rfl, hb⟩; have n0_ := Aside0.mk (below_step (by repeat (first | (with_reducible first|exact HB.out|apply bA|apply bN|apply bD)|exact HB.out)) hb); clear HB; have HB := n0_; clear n0_; (try clear hb); (try clear hb2); (try clear hk); (try clear hi)))
     repeat (go_quiet (first | (go_at_call 9; (with_reducible refine (athanorlaw03_awake.calls kj3  t192 _ A7.out).mono ?_); rintro e w8 ⟨rfl, hb⟩; have n0_ := Aside0.mk (below_step (by repeat (first | (with_reducible first|exact HB.out|apply bA|apply bN|apply bD)|exact HB.out)) hb); clear HB; have HB := n0_; clear n0_; (try clear hb); (try clear hb2); (try clear hk); (try clear hi))); try go_wp2_with (first | (go_at_call 9; (with_reducible refine (athanorlaw03_awake.calls kj3  t192 _ A7.out).mono ?_); rintro e w8 ⟨rfl, hb⟩; have n0_ := Aside0.mk (below_step (by repeat (first | (with_reducible first|exact HB.out|apply bA|apply bN|apply bD)|exact HB.out)) hb); clear HB; have HB := n0_; clear n0_; (try clear hb); (try clear hb2); (try clear hk); (try clear hi))))
     go_ret
     exact ⟨by first | rfl | (simp [errW_none, errW_some] <;> rfl) | (simp [*, errW_none, errW_some] <;> rfl), by repeat (first | (with_reducible first|exact HB.out|apply bA|apply bN|apply bD)|exact HB.out)⟩
   ·replace c6 := Bool.eq_false_iff.mpr c6
    subst c6
    have H1 : ((shape_Shape_Place.f kj3 l0 l1).bind fun bt193 => ((shape_Shape_At.f kj3 l0 a2).bind fun bt195 => ((athanorref03_Right.f kj3 l0).bind fun t199 => (if t199 = true then (athanorlaw03_ShapePlaces.l0 kj3 l0 l1 a2 bt193.1 bt193.2 bt195.1 bt195.2 ((l1.length : Int) == (l0.length : Int)) 0 (l1.length : Int) 0) else (if bt193.2 = 20 then (if bt193.1 = 0 then (if bt195.2 = 20 then (if (bt195.1.length : Int) = 0 then ((athanorlaw03_awake.f kj3).bind fun t200 => (some t200)) else (none)) else (none)) else (none)) else (none)))))) = some r := by rw [if_neg (show ¬ (false = true) by decide)] at H; exact H
    clear H
    have H := H1
    clear H1
    replace H := Option.bind_eq_some_iff.mp H
    obtain ⟨⟨t193, t194⟩, A90, H⟩ := H
    replace H : ((shape_Shape_At.f kj3 l0 a2).bind fun bt195 => ((athanorref03_Right.f kj3 l0).bind fun t199 => (if t199 = true then (athanorlaw03_ShapePlaces.l0 kj3 l0 l1 a2 t193 t194 bt195.1 bt195.2 ((l1.length : Int) == (l0.length : Int)) 0 (l1.length : Int) 0) else (if t194 = 20 then (if t193 = 0 then (if bt195.2 = 20 then (if (bt195.1.length : Int) = 0 then ((athanorlaw03_awake.f kj3).bind fun t200 => (some t200)) else (none)) else (none)) else (none)) else (none))))) = some r := H
    have A9 := Aside0.mk A90
    clear A90
    replace H := Option.bind_eq_some_iff.mp H
    obtain ⟨⟨t195, t196⟩, A100, H⟩ := H
    replace H : ((athanorref03_Right.f kj3 l0).bind fun t199 => (if t199 = true then (athanorlaw03_ShapePlaces.l0 kj3 l0 l1 a2 t193 t194 t195 t196 ((l1.length : Int) == (l0.length : Int)) 0 (l1.length : Int) 0) else (if t194 = 20 then (if t193 = 0 then (if t196 = 20 then (if (t195.length : Int) = 0 then ((athanorlaw03_awake.f kj3).bind fun t200 => (some t200)) else (none)) else (none)) else (none)) else (none)))) = some r := H
    have A10 := Aside0.mk A100
    clear A100
    replace H := Option.bind_eq_some_iff.mp H
    obtain ⟨t199, A110, H⟩ := H
    replace H : (if t199 = true then (athanorlaw03_ShapePlaces.l0 kj3 l0 l1 a2 t193 t194 t195 t196 ((l1.length : Int) == (l0.length : Int)) 0 (l1.length : Int) 0) else (if t194 = 20 then (if t193 = 0 then (if t196 = 20 then (if (t195.length : Int) = 0 then ((athanorlaw03_awake.f kj3).bind fun t200 => (some t200)) else (none)) else (none)) else (none)) else (none))) = some r := H
    have A11 := Aside0.mk A110
    clear A110
    by_cases c12 : t199 = true
    ·subst c12
     have H1 : (athanorlaw03_ShapePlaces.l0 kj3 l0 l1 a2 t193 t194 t195 t196 ((l1.length : Int) == (l0.length : Int)) 0 (l1.length : Int) 0) = some r := by rw [if_pos rfl] at H; exact H
     clear H
     have H := H1
     clear H1
     have H' := Aside0.mk H
     clear H
     go_wp2_with (first | (go_at_call 21; (with_reducible refine (shape_Shape_Place.calls kj3 _ _ l0 _ _ l1 t193 t194 _ ?side1 ?side2 ?side3 ?side4 A9.out).mono ?_); (case side1 => repeat (first|exact (Kd.C_below HR0.out HB.out) | (with_reducible refine cA ?_ _) | (with_reducible refine cN ?_ _) | (with_reducible refine cD ?_))); (case side2 => exact HC0.out); (case side3 => repeat (first|exact (Kd.C_below HR1.out HB.out) | (with_reducible refine cA ?_ _) | (with_reducible refine cN ?_ _) | (with_reducible refine cD ?_))); (case side4 => exact HC1.out); rintro e w' ⟨rfl, ⟨nd, rfl⟩⟩; (try first|exact ⟨rfl, _, World.drewN_drewN _ _ _⟩|exact ⟨rfl, _, Eq.trans (World.drewN_drewN _ _ _) (congrArg (World.drewN _) (Nat.add_assoc _ _ _))⟩)) | (go_at_call 22; (with_reducible refine (shape_Shape_At.calls kj3 _ _ l0 a2 t195 t196 _ ?side1 ?side2 A10.out).mono ?_); (case side1 => repeat (first|exact (Kd.C_below HR0.out (by repeat (first | (with_reducible first|exact HB.out|apply bA|apply bN|apply bD)|exact HB.out))) | (with_reducible refine cA ?_ _) | (with_reducible refine cN ?_ _) | (with_reducible refine cD ?_))); (case side2 => exact HC0.out); rintro e w13 ⟨v197, rfl, ho0, hb⟩; have n0_ := Aside0.mk (Kd.R_lower ho0 (below_size (by repeat (first | (with_reducible first|exact HB.out|apply bA|apply bN|apply bD)|exact HB.out)))); have n1_ := Aside0.mk (below_step (by repeat (first | (with_reducible first|exact HB.out|apply bA|apply bN|apply bD)|exact HB.out)) hb); clear HB; have HO198 := n0_; have HB := n1_; clear n0_ n1_; (try clear hb); (try clear hb2); (try clear hk); (try clear hi); (try clear ho0)) | (go_at_call 11; (with_reducible refine (athanorref03_Right.calls kj3 _ _ l0 true _ ?side1 ?side2 A11.out).mono ?_); (case side1 => repeat (first|exact (Kd.C_below HR0.out HB.out) | (with_reducible refine cA ?_ _) | (with_reducible refine cN ?_ _) | (with_reducible refine cD ?_))); (case side2 => exact HC0.out); rintro e w' ⟨rfl, ⟨nd, rfl⟩⟩; (try first|exact ⟨rfl, _, World.drewN_drewN _ _ _⟩|exact ⟨rfl, _, Eq.trans (World.drewN_drewN _ _ _) (congrArg (World.drewN _) (Nat.add_assoc _ _ _))⟩)))
     repeat (go_quiet (first | (go_at_call 21; (with_reducible refine (shape_Shape_Place.calls kj3 _ _ l0 _ _ l1 t193 t194 _ ?side1 ?side2 ?side3 ?side4 A9.out).mono ?_); (case side1 => repeat (first|exact (Kd.C_below HR0.out HB.out) | (with_reducible refine cA ?_ _) | (with_reducible refine cN ?_ _) | (with_reducible refine cD ?_))); (case side2 => exact HC0.out); (case side3 => repeat (first|exact (Kd.C_below HR1.out HB.out) | (with_reducible refine cA ?_ _) | (with_reducible refine cN ?_ _) | (with_reducible refine cD ?_))); (case side4 => exact HC1.out); rintro e w' ⟨rfl, ⟨nd, rfl⟩⟩; (try first|exact ⟨rfl, _, World.drewN_drewN _ _ _⟩|exact ⟨rfl, _, Eq.trans (World.drewN_drewN _ _ _) (congrArg (World.drewN _) (Nat.add_assoc _ _ _))⟩)) | (go_at_call 22; (with_reducible refine (shape_Shape_At.calls kj3 _ _ l0 a2 t195 t196 _ ?side1 ?side2 A10.out).mono ?_); (case side1 => repeat (first|exact (Kd.C_below HR0.out (by repeat (first | (with_reducible first|exact HB.out|apply bA|apply bN|apply bD)|exact HB.out))) | (with_reducible refine cA ?_ _) | (with_reducible refine cN ?_ _) | (with_reducible refine cD ?_))); (case side2 => exact HC0.out); rintro e w13 ⟨v197, rfl, ho0, hb⟩; have n0_ := Aside0.mk (Kd.R_lower ho0 (below_size (by repeat (first | (with_reducible first|exact HB.out|apply bA|apply bN|apply bD)|exact HB.out)))); have n1_ := Aside0.mk (below_step (by repeat (first | (with_reducible first|exact HB.out|apply bA|apply bN|apply bD)|exact HB.out)) hb); clear HB; have HO198 := n0_; have HB := n1_; clear n0_ n1_; (try clear hb); (try clear hb2); (try clear hk); (try clear hi); (try clear ho0)) | (go_at_call 11; (with_reducible refine (athanorref03_Right.calls kj3 _ _ l0 true _ ?side1 ?side2 A11.out).mono ?_); (case side1 => repeat (first|exact (Kd.C_below HR0.out HB.out) | (with_reducible refine cA ?_ _) | (with_reducible refine cN ?_ _) | (with_reducible refine cD ?_))); (case side2 => exact HC0.out); rintro e w' ⟨rfl, ⟨nd, rfl⟩⟩; (try first|exact ⟨rfl, _, World.drewN_drewN _ _ _⟩|exact ⟨rfl, _, Eq.trans (World.drewN_drewN _ _ _) (congrArg (World.drewN _) (Nat.add_assoc _ _ _))⟩))); try go_wp2_with (first | (go_at_call 21; (with_reducible refine (shape_Shape_Place.calls kj3 _ _ l0 _ _ l1 t193 t194 _ ?side1 ?side2 ?side3 ?side4 A9.out).mono ?_); (case side1 => repeat (first|exact (Kd.C_below HR0.out HB.out) | (with_reducible refine cA ?_ _) | (with_reducible refine cN ?_ _) | (with_reducible refine cD ?_))); (case side2 => exact HC0.out); (case side3 => repeat (first|exact (Kd.C_below HR1.out HB.out) | (with_reducible refine cA ?_ _) | (with_reducible refine cN ?_ _) | (with_reducible refine cD ?_))); (case side4 => exact HC1.out); rintro e w' ⟨rfl, ⟨nd, rfl⟩⟩; (try first|exact ⟨rfl, _, World.drewN_drewN _ _ _⟩|exact ⟨rfl, _, Eq.trans (World.drewN_drewN _ _ _) (congrArg (World.drewN _) (Nat.add_assoc _ _ _))⟩)) | (go_at_call 22; (with_reducible refine (shape_Shape_At.calls kj3 _ _ l0 a2 t195 t196 _ ?side1 ?side2 A10.out).mono ?_); (case side1 => repeat (first|exact (Kd.C_below HR0.out (by repeat (first | (with_reducible first|exact HB.out|apply bA|apply bN|apply bD)|exact HB.out))) | (with_reducible refine cA ?_ _) | (with_reducible refine cN ?_ _) | (with_reducible refine cD ?_))); (case side2 => exact HC0.out); rintro e w13 ⟨v197, rfl, ho0, hb⟩; have n0_ := Aside0.mk (Kd.R_lower ho0 (below_size (by repeat (first | (with_reducible first|exact HB.out|apply bA|apply bN|apply bD)|exact HB.out)))); have n1_ := Aside0.mk (below_step (by repeat (first | (with_reducible first|exact HB.out|apply bA|apply bN|apply bD)|exact HB.out)) hb); clear HB; have HO198 := n0_; have HB := n1_; clear n0_ n1_; (try clear hb); (try clear hb2); (try clear hk); (try clear hi); (try clear ho0)) | (go_at_call 11; (with_reducible refine (athanorref03_Right.calls kj3 _ _ l0 true _ ?side1 ?side2 A11.out).mono ?_); (case side1 => repeat (first|exact (Kd.C_below HR0.out HB.out) | (with_reducible refine cA ?_ _) | (with_reducible refine cN ?_ _) | (with_reducible refine cD ?_))); (case side2 => exact HC0.out); rintro e w' ⟨rfl, ⟨nd, rfl⟩⟩; (try first|exact ⟨rfl, _, World.drewN_drewN _ _ _⟩|exact ⟨rfl, _, Eq.trans (World.drewN_drewN _ _ _) (congrArg (World.drewN _) (Nat.add_assoc _ _ _))⟩))))
     go_loopg [11, 12, 67] kj3 (fun kq v11 v12 v67 w' => ∃ (x11_2 : Bool) (x12_2 : Int) (x67_2 : Int), v11 = .bool x11_2 ∧ v12 = .int .i64 x12_2 ∧ v67 = .int .i64 x67_2 ∧ Aside0 (athanorlaw03_ShapePlaces.l0 kq l0 l1 a2 t193 t194 t195 t196 x11_2 x12_2 (l1.length : Int) x67_2 = some r) ∧ Aside0 (kq ≤ kj3) ∧ Aside0 (Kd.R (Kd.int .i64) 3 w' w.heap.size (fun _ => True) v197 t195) ∧ Aside0 (Below w.heap.size w w'))
     case atStart => exact ⟨(((l1.length : Int) == (l0.length : Int))), (0), (0), (by first | rfl | (simp; done) | (simp [*]; done)), (by first | rfl | (simp; done) | (simp [*]; done)), (by first | rfl | (simp; done) | (simp [*]; done)), H', ⟨Nat.le_refl _⟩, ⟨by (with_reducible repeat (first|apply rA|apply rN|apply rD)); exact HO198.out⟩, ⟨by repeat (first | (with_reducible first|exact HB.out|apply bA|apply bN|apply bD)|exact HB.out)⟩⟩
     case round =>
      clear H'
      (try clear c1); (try clear p2); (try clear c5); (try clear c5b0); (try clear c5b1); (try clear c6); (try clear c7); (try clear c12); (try clear p2)
      obtain ⟨x11_2, x12_2, x67_2, rfl, rfl, rfl, HA, HK2, HO_9, HB⟩ := hrel
      cases gk with
      | zero => exact absurd HA.out (by simp [athanorlaw03_ShapePlaces.l0])
      | succ k2 =>
       have H := HA.out
       clear HA
       simp only [athanorlaw03_ShapePlaces.l0] at H
       by_cases c14 : x67_2 < (l1.length : Int)
       ·rw [if_pos c14] at H
        have c14b0 : decide (x67_2 < (l1.length : Int)) = true := decide_eq_true c14
        clear c14
        by_cases c15 : x11_2 = true
        ·subst c15
         have H1 : (if 0 ≤ x67_2 then (if x67_2 < (l1.length : Int) then (if (rd l1 x67_2) ≥ 0 then (if x67_2 < (l0.length : Int) then (athanorlaw03_ShapePlaces.l0 k2 l0 l1 a2 t193 t194 t195 t196 (decide ((rd l1 x67_2) < (rd l0 x67_2))) (wrap64 ((wrap64 (x12_2 * (rd l0 x67_2))) + (rd l1 x67_2))) (l1.length : Int) (wrap64 (x67_2 + 1))) else (none)) else (if x67_2 < (l0.length : Int) then (athanorlaw03_ShapePlaces.l0 k2 l0 l1 a2 t193 t194 t195 t196 false (wrap64 ((wrap64 (x12_2 * (rd l0 x67_2))) + (rd l1 x67_2))) (l1.length : Int) (wrap64 (x67_2 + 1))) else (none))) else (none)) else (none)) = some r := by rw [if_pos rfl] at H; exact H
         clear H
         have H := H1
         clear H1
         by_cases c16 : 0 ≤ x67_2
         ·rw [if_pos c16] at H
          have c16b0 : decide (0 ≤ x67_2) = true := decide_eq_true c16
          clear c16
          by_cases c17 : x67_2 < (l1.length : Int)
          ·rw [if_pos c17] at H
           have c17b0 : decide (x67_2 < (l1.length : Int)) = true := decide_eq_true c17
           clear c17
           by_cases c18 : (rd l1 x67_2) ≥ 0
           ·rw [if_pos c18] at H
            have c18b0 : decide (0 ≤ (rd l1 x67_2)) = true := decide_eq_true c18
            clear c18
            by_cases c19 : x67_2 < (l0.length : Int)
            ·rw [if_pos c19] at H
             have c19b0 : decide (x67_2 < (l0.length : Int)) = true := decide_eq_true c19
             clear c19
             as_aux_lemma =>
              have H' := Aside0.mk H
              clear H
              have p201 : 0 ≤ (x67_2 : Int) := of_decide_eq_true (by first | (with_reducible assumption) | assumption)
              have q201 : x67_2 < (l1.length : Int) := of_decide_eq_true (by first | (with_reducible assumption) | assumption)
              obtain ⟨ad201, e201, hx201_0⟩ := Kd.at_int HR1.out x67_2 p201 q201
              cases e201
              replace hx201_0 := (HB.out.cell (World.block_lt_of_cell? w _ hx201_0)).trans hx201_0
              replace p201 := eq_true p201
              replace q201 := eq_true q201
              have p202 : 0 ≤ (x67_2 : Int) := of_decide_eq_true (by first | (with_reducible assumption) | assumption)
              have q202 : x67_2 < (l1.length : Int) := of_decide_eq_true (by first | (with_reducible assumption) | assumption)
              obtain ⟨ad202, e202, hx202_0⟩ := Kd.at_int HR1.out x67_2 p202 q202
              obtain rfl : ad201 = ad202 := (by injection e202)
              replace hx202_0 := (HB.out.cell (World.block_lt_of_cell? w _ hx202_0)).trans hx202_0
              replace p202 := eq_true p202
              replace q202 := eq_true q202
              have p203 : 0 ≤ (x67_2 : Int) := of_decide_eq_true (by first | (with_reducible assumption) | assumption)
              have q203 : x67_2 < (l0.length : Int) := of_decide_eq_true (by first | (with_reducible assumption) | assumption)
              obtain ⟨ad203, e203, hx203_0⟩ := Kd.at_int HR0.out x67_2 p203 q203
              cases e203
              replace hx203_0 := (HB.out.cell (World.block_lt_of_cell? w _ hx203_0)).trans hx203_0
              replace p203 := eq_true p203
              replace q203 := eq_true q203
              have p204 : 0 ≤ (x67_2 : Int) := of_decide_eq_true (by first | (with_reducible assumption) | assumption)
              have q204 : x67_2 < (l0.length : Int) := of_decide_eq_true (by first | (with_reducible assumption) | assumption)
              obtain ⟨ad204, e204, hx204_0⟩ := Kd.at_int HR0.out x67_2 p204 q204
              obtain rfl : ad203 = ad204 := (by injection e204)
              replace hx204_0 := (HB.out.cell (World.block_lt_of_cell? w _ hx204_0)).trans hx204_0
              replace p204 := eq_true p204
              replace q204 := eq_true q204
              have p205 : 0 ≤ (x67_2 : Int) := of_decide_eq_true (by first | (with_reducible assumption) | assumption)
              have q205 : x67_2 < (l1.length : Int) := of_decide_eq_true (by first | (with_reducible assumption) | assumption)
              obtain ⟨ad205, e205, hx205_0⟩ := Kd.at_int HR1.out x67_2 p205 q205
              obtain rfl : ad201 = ad205 := (by injection e205)
              replace hx205_0 := (HB.out.cell (World.block_lt_of_cell? w _ hx205_0)).trans hx205_0
              replace p205 := eq_true p205
              replace q205 := eq_true q205
              go_wp2
              repeat (go_quiet (fail); try go_wp2)
              go_roundg k2
              case measure => have := HJ3.out; have := HK2.out; omega
              case rel => exact ⟨(decide ((rd l1 x67_2) < (rd l0 x67_2))), (wrap64 ((wrap64 (x12_2 * (rd l0 x67_2))) + (rd l1 x67_2))), (wrap64 (x67_2 + 1)), (by first | rfl | (simp; done) | (simp [*]; done)), (by first | rfl | (simp; done) | (simp [*]; done)), (by first | rfl | (simp; done) | (simp [*]; done)), H', ⟨by have := HJ3.out; have := HK2.out; omega⟩, ⟨by (with_reducible repeat (first|apply rA|apply rN|apply rD)); exact HO_9.out⟩, ⟨by repeat (first | (with_reducible first|exact HB.out|apply bA|apply bN|apply bD)|exact HB.out)⟩⟩
            ·rw [if_neg c19] at H
             exact absurd H (by simp)
           ·rw [if_neg c18] at H
            have c18b0 : decide (0 ≤ (rd l1 x67_2)) = false := decide_eq_false c18
            clear c18
            by_cases c20 : x67_2 < (l0.length : Int)
            ·rw [if_pos c20] at H
             have c20b0 : decide (x67_2 < (l0.length : Int)) = true := decide_eq_true c20
             clear c20
             as_aux_lemma =>
              have H' := Aside0.mk H
              clear H
              have p201 : 0 ≤ (x67_2 : Int) := of_decide_eq_true (by first | (with_reducible assumption) | assumption)
              have q201 : x67_2 < (l1.length : Int) := of_decide_eq_true (by first | (with_reducible assumption) | assumption)
              obtain ⟨ad201, e201, hx201_0⟩ := Kd.at_int HR1.out x67_2 p201 q201
              cases e201
              replace hx201_0 := (HB.out.cell (World.block_lt_of_cell? w _ hx201_0)).trans hx201_0
              replace p201 := eq_true p201
              replace q201 := eq_true q201
              have p206 : 0 ≤ (x67_2 : Int) := of_decide_eq_true (by first | (with_reducible assumption) | assumption)
              have q206 : x67_2 < (l0.length : Int) := of_decide_eq_true (by first | (with_reducible assumption) | assumption)
              obtain ⟨ad206, e206, hx206_0⟩ := Kd.at_int HR0.out x67_2 p206 q206
              cases e206
              replace hx206_0 := (HB.out.cell (World.block_lt_of_cell? w _ hx206_0)).trans hx206_0
              replace p206 := eq_true p206
              replace q206 := eq_true q206
              have p207 : 0 ≤ (x67_2 : Int) := of_decide_eq_true (by first | (with_reducible assumption) | assumption)
              have q207 : x67_2 < (l1.length : Int) := of_decide_eq_true (by first | (with_reducible assumption) | assumption)
              obtain ⟨ad207, e207, hx207_0⟩ := Kd.at_int HR1.out x67_2 p207 q207
              obtain rfl : ad201 = ad207 := (by injection e207)
              replace hx207_0 := (HB.out.cell (World.block_lt_of_cell? w _ hx207_0)).trans hx207_0
              replace p207 := eq_true p207
              replace q207 := eq_true q207
              go_wp2
              repeat (go_quiet (fail); try go_wp2)
              go_roundg k2
              case measure => have := HJ3.out; have := HK2.out; omega
              case rel => exact ⟨(false), (wrap64 ((wrap64 (x12_2 * (rd l0 x67_2))) + (rd l1 x67_2))), (wrap64 (x67_2 + 1)), (by first | rfl | (simp; done) | (simp [*]; done)), (by first | rfl | (simp; done) | (simp [*]; done)), (by first | rfl | (simp; done) | (simp [*]; done)), H', ⟨by have := HJ3.out; have := HK2.out; omega⟩, ⟨by (with_reducible repeat (first|apply rA|apply rN|apply rD)); exact HO_9.out⟩, ⟨by repeat (first | (with_reducible first|exact HB.out|apply bA|apply bN|apply bD)|exact HB.out)⟩⟩
            ·rw [if_neg c20] at H
             exact absurd H (by simp)
          ·rw [if_neg c17] at H
           exact absurd H (by simp)
         ·rw [if_neg c16] at H
          exact absurd H (by simp)
        ·replace c15 := Bool.eq_false_iff.mpr c15
         subst c15
         have H1 : (athanorlaw03_ShapePlaces.l0 k2 l0 l1 a2 t193 t194 t195 t196 false x12_2 (l1.length : Int) (wrap64 (x67_2 + 1))) = some r := by rw [if_neg (show ¬ (false = true) by decide)] at H; exact H
         clear H
         have H := H1
         clear H1
         as_aux_lemma =>
          have H' := Aside0.mk H
          clear H
          go_wp2
          repeat (go_quiet (fail); try go_wp2)
          go_roundg k2
          case measure => have := HJ3.out; have := HK2.out; omega
          case rel => exact ⟨(false), (x12_2), (wrap64 (x67_2 + 1)), (by first | rfl | (simp; done) | (simp [*]; done)), (by first | rfl | (simp; done) | (simp [*]; done)), (by first | rfl | (simp; done) | (simp [*]; done)), H', ⟨by have := HJ3.out; have := HK2.out; omega⟩, ⟨by (with_reducible repeat (first|apply rA|apply rN|apply rD)); exact HO_9.out⟩, ⟨by repeat (first | (with_reducible first|exact HB.out|apply bA|apply bN|apply bD)|exact HB.out)⟩⟩
       ·rw [if_neg c14] at H
        have c14b0 : decide (x67_2 < (l1.length : Int)) = false := decide_eq_false c14
        clear c14
        have HC21 := Aside0.mk H
        clear H
        go_upto_if 99 with (fail)
        repeat (go_quiet (fail); go_upto_if 99 with (fail))
        go_cut [] (fun wc => ∃ (kq : Nat), Aside0 (athanorlaw03_ShapePlaces.j2 kq l0 a2 t195 t196 = some r) ∧ Aside0 (kq ≤ k2) ∧ Aside0 (Kd.R (Kd.int .i64) 3 wc w.heap.size (fun _ => True) v197 t195) ∧ Aside0 (Below w.heap.size w wc))
        case first =>
         have H := HC21.out
         clear HC21
         by_cases c22 : x11_2 = true
         ·subst c22
          have H1 : ((shape_Shape_At.f k2 l0 t193).bind fun bt208 => (if t194 = 0 then (if t193 = x12_2 then (if bt208.2 = 0 then ((athanorref03_Same.f k2 bt208.1 l1).bind fun t212 => (if t212 = true then (athanorlaw03_ShapePlaces.j2 k2 l0 a2 t195 t196) else (none))) else (none)) else (none)) else (none))) = some r := by rw [if_pos rfl] at H; exact H
          clear H
          have H := H1
          clear H1
          replace H := Option.bind_eq_some_iff.mp H
          obtain ⟨⟨t208, t209⟩, A230, H⟩ := H
          replace H : (if t194 = 0 then (if t193 = x12_2 then (if t209 = 0 then ((athanorref03_Same.f k2 t208 l1).bind fun t212 => (if t212 = true then (athanorlaw03_ShapePlaces.j2 k2 l0 a2 t195 t196) else (none))) else (none)) else (none)) else (none)) = some r := H
          have A23 := Aside0.mk A230
          clear A230
          by_cases c24 : t194 = 0
          ·rw [if_pos c24] at H
           have c24b0 : (t194 == 0) = true := beq_iff_eq.mpr c24
           have c24b1 : (t194 != 0) = false := bne_eq_false_iff_eq.mpr c24
           clear c24
           (first | rw [c24b0] | (simp only [i64_w, i32_w]; rw [c24b0]) | skip)
           by_cases c25 : t193 = x12_2
           ·rw [if_pos c25] at H
            have c25b0 : (t193 == x12_2) = true := beq_iff_eq.mpr c25
            have c25b1 : (t193 != x12_2) = false := bne_eq_false_iff_eq.mpr c25
            clear c25
            by_cases c26 : t209 = 0
            ·rw [if_pos c26] at H
             have c26b0 : (t209 == 0) = true := beq_iff_eq.mpr c26
             have c26b1 : (t209 != 0) = false := bne_eq_false_iff_eq.mpr c26
             clear c26
             replace H := Option.bind_eq_some_iff.mp H
             obtain ⟨t212, A270, H⟩ := H
             replace H : (if t212 = true then (athanorlaw03_ShapePlaces.j2 k2 l0 a2 t195 t196) else (none)) = some r := H
             have A27 := Aside0.mk A270
             clear A270
             by_cases c28 : t212 = true
             ·subst c28
              have H1 : (athanorlaw03_ShapePlaces.j2 k2 l0 a2 t195 t196) = some r := by rw [if_pos rfl] at H; exact H
              clear H
              have H := H1
              clear H1
              as_aux_lemma =>
               have H' := Aside0.mk H
               clear H
               go_wp2_with (first | (go_at_call 22; (with_reducible refine (shape_Shape_At.calls k2 _ _ l0 t193 t208 t209 _ ?side1 ?side2 A23.out).mono ?_); (case side1 => repeat (first|exact (Kd.C_below HR0.out HB.out) | (with_reducible refine cA ?_ _) | (with_reducible refine cN ?_ _) | (with_reducible refine cD ?_))); (case side2 => exact HC0.out); rintro e w29 ⟨v210, rfl, ho0, hb⟩; have n0_ := Aside0.mk (Kd.R_elder' (by (with_reducible repeat (first|apply rA|apply rN|apply rD)); exact HO_9.out) (Kd.R_base ho0) hb); have n1_ := Aside0.mk (Kd.R_lower (Kd.R_new' ho0 (Kd.R_lt (by (with_reducible repeat (first|apply rA|apply rN|apply rD)); exact HO_9.out))) (below_size (by repeat (first | (with_reducible first|exact HB.out|apply bA|apply bN|apply bD)|exact HB.out)))); have n2_ := Aside0.mk (below_step (by repeat (first | (with_reducible first|exact HB.out|apply bA|apply bN|apply bD)|exact HB.out)) hb); clear HO_9; clear HB; have HO_9 := n0_; have HO211 := n1_; have HB := n2_; clear n0_ n1_ n2_; (try clear hb); (try clear hb2); (try clear hk); (try clear hi); (try clear ho0); obtain ⟨Ao30, co30, eo30⟩ := Kd.R_slice HO211.out; subst eo30) | (go_at_call 20; (with_reducible refine (athanorref03_Same.calls k2 _ _ t208 _ _ l1 true _ ?side1 ?side2 ?side3 ?side4 A27.out).mono ?_); (case side1 => repeat (first|exact (Kd.R_reads' HO211.out).2.2 | (with_reducible refine cA ?_ _) | (with_reducible refine cN ?_ _) | (with_reducible refine cD ?_))); (case side2 => exact (Kd.R_reads' HO211.out).2.1); (case side3 => repeat (first|exact (Kd.C_below HR1.out HB.out) | (with_reducible refine cA ?_ _) | (with_reducible refine cN ?_ _) | (with_reducible refine cD ?_))); (case side4 => exact HC1.out); rintro e w' ⟨rfl, ⟨nd, rfl⟩⟩; (try first|exact ⟨rfl, _, World.drewN_drewN _ _ _⟩|exact ⟨rfl, _, Eq.trans (World.drewN_drewN _ _ _) (congrArg (World.drewN _) (Nat.add_assoc _ _ _))⟩)))
               repeat (go_quiet (first | (go_at_call 22; (with_reducible refine (shape_Shape_At.calls k2 _ _ l0 t193 t208 t209 _ ?side1 ?side2 A23.out).mono ?_); (case side1 => repeat (first|exact (Kd.C_below HR0.out HB.out) | (with_reducible refine cA ?_ _) | (with_reducible refine cN ?_ _) | (with_reducible refine cD ?_))); (case side2 => exact HC0.out); rintro e w29 ⟨v210, rfl, ho0, hb⟩; have n0_ := Aside0.mk (Kd.R_elder' (by (with_reducible repeat (first|apply rA|apply rN|apply rD)); exact HO_9.out) (Kd.R_base ho0) hb); have n1_ := Aside0.mk (Kd.R_lower (Kd.R_new' ho0 (Kd.R_lt (by (with_reducible repeat (first|apply rA|apply rN|apply rD)); exact HO_9.out))) (below_size (by repeat (first | (with_reducible first|exact HB.out|apply bA|apply bN|apply bD)|exact HB.out)))); have n2_ := Aside0.mk (below_step (by repeat (first | (with_reducible first|exact HB.out|apply bA|apply bN|apply bD)|exact HB.out)) hb); clear HO_9; clear HB; have HO_9 := n0_; have HO211 := n1_; have HB := n2_; clear n0_ n1_ n2_; (try clear hb); (try clear hb2); (try clear hk); (try clear hi); (try clear ho0); obtain ⟨Ao30, co30, eo30⟩ := Kd.R_slice HO211.out; subst eo30) | (go_at_call 20; (with_reducible refine (athanorref03_Same.calls k2 _ _ t208 _ _ l1 true _ ?side1 ?side2 ?side3 ?side4 A27.out).mono ?_); (case side1 => repeat (first|exact (Kd.R_reads' HO211.out).2.2 | (with_reducible refine cA ?_ _) | (with_reducible refine cN ?_ _) | (with_reducible refine cD ?_))); (case side2 => exact (Kd.R_reads' HO211.out).2.1); (case side3 => repeat (first|exact (Kd.C_below HR1.out HB.out) | (with_reducible refine cA ?_ _) | (with_reducible refine cN ?_ _) | (with_reducible refine cD ?_))); (case side4 => exact HC1.out); rintro e w' ⟨rfl, ⟨nd, rfl⟩⟩; (try first|exact ⟨rfl, _, World.drewN_drewN _ _ _⟩|exact ⟨rfl, _, Eq.trans (World.drewN_drewN _ _ _) (congrArg (World.drewN _) (Nat.add_assoc _ _ _))⟩))); try go_wp2_with (first | (go_at_call 22; (with_reducible refine (shape_Shape_At.calls k2 _ _ l0 t193 t208 t209 _ ?side1 ?side2 A23.out).mono ?_); (case side1 => repeat (first|exact (Kd.C_below HR0.out HB.out) | (with_reducible refine cA ?_ _) | (with_reducible refine cN ?_ _) | (with_reducible refine cD ?_))); (case side2 => exact HC0.out); rintro e w29 ⟨v210, rfl, ho0, hb⟩; have n0_ := Aside0.mk (Kd.R_elder' (by (with_reducible repeat (first|apply rA|apply rN|apply rD)); exact HO_9.out) (Kd.R_base ho0) hb); have n1_ := Aside0.mk (Kd.R_lower (Kd.R_new' ho0 (Kd.R_lt (by (with_reducible repeat (first|apply rA|apply rN|apply rD)); exact HO_9.out))) (below_size (by repeat (first | (with_reducible first|exact HB.out|apply bA|apply bN|apply bD)|exact HB.out)))); have n2_ := Aside0.mk (below_step (by repeat (first | (with_reducible first|exact HB.out|apply bA|apply bN|apply bD)|exact HB.out)) hb); clear HO_9; clear HB; have HO_9 := n0_; have HO211 := n1_; have HB := n2_; clear n0_ n1_ n2_; (try clear hb); (try clear hb2); (try clear hk); (try clear hi); (try clear ho0); obtain ⟨Ao30, co30, eo30⟩ := Kd.R_slice HO211.out; subst eo30) | (go_at_call 20; (with_reducible refine (athanorref03_Same.calls k2 _ _ t208 _ _ l1 true _ ?side1 ?side2 ?side3 ?side4 A27.out).mono ?_); (case side1 => repeat (first|exact (Kd.R_reads' HO211.out).2.2 | (with_reducible refine cA ?_ _) | (with_reducible refine cN ?_ _) | (with_reducible refine cD ?_))); (case side2 => exact (Kd.R_reads' HO211.out).2.1); (case side3 => repeat (first|exact (Kd.C_below HR1.out HB.out) | (with_reducible refine cA ?_ _) | (with_reducible refine cN ?_ _) | (with_reducible refine cD ?_))); (case side4 => exact HC1.out); rintro e w' ⟨rfl, ⟨nd, rfl⟩⟩; (try first|exact ⟨rfl, _, World.drewN_drewN _ _ _⟩|exact ⟨rfl, _, Eq.trans (World.drewN_drewN _ _ _) (congrArg (World.drewN _) (Nat.add_assoc _ _ _))⟩))))
               go_meet
               case rel => exact ⟨_, H', ⟨by have := HJ3.out; have := HK2.out; first | omega|exact Nat.le_refl _⟩, ⟨by (with_reducible repeat (first|apply rA|apply rN|apply rD)); exact Kd.R_mono HO_9.out (fun _ hk => trivial)⟩, ⟨by repeat (first | (with_reducible first|exact HB.out|apply bA|apply bN|apply bD)|exact HB.out)⟩⟩
             ·replace c28 := Bool.eq_false_iff.mpr c28
              subst c28
              have H1 : (none) = some r := by rw [if_neg (show ¬ (false = true) by decide)] at H; exact H
              clear H
              have H := H1
              clear H1
              exact absurd H (by simp)
            ·rw [if_neg c26] at H
             exact absurd H (by simp)
           ·rw [if_neg c25] at H
            exact absurd H (by simp)
          ·rw [if_neg c24] at H
           exact absurd H (by simp)
         ·replace c22 := Bool.eq_false_iff.mpr c22
          subst c22
          have H1 : (if t194 = 11 then (if t193 = 0 then (athanorlaw03_ShapePlaces.j2 k2 l0 a2 t195 t196) else (none)) else (none)) = some r := by rw [if_neg (show ¬ (false = true) by decide)] at H; exact H
          clear H
          have H := H1
          clear H1
          by_cases c31 : t194 = 11
          ·rw [if_pos c31] at H
           have c31b0 : (t194 == 11) = true := beq_iff_eq.mpr c31
           have c31b1 : (t194 != 11) = false := bne_eq_false_iff_eq.mpr c31
           clear c31
           by_cases c32 : t193 = 0
           ·rw [if_pos c32] at H
            have c32b0 : (t193 == 0) = true := beq_iff_eq.mpr c32
            have c32b1 : (t193 != 0) = false := bne_eq_false_iff_eq.mpr c32
            clear c32
            as_aux_lemma =>
             have H' := Aside0.mk H
             clear H
             go_wp2
             repeat (go_quiet (fail); try go_wp2)
             go_meet
             case rel => exact ⟨_, H', ⟨by have := HJ3.out; have := HK2.out; first | omega|exact Nat.le_refl _⟩, ⟨by (with_reducible repeat (first|apply rA|apply rN|apply rD)); exact HO_9.out⟩, ⟨by repeat (first | (with_reducible first|exact HB.out|apply bA|apply bN|apply bD)|exact HB.out)⟩⟩
           ·rw [if_neg c32] at H
            exact absurd H (by simp)
          ·rw [if_neg c31] at H
           exact absurd H (by simp)
        case rest =>
         clear HC21
         (try clear c1); (try clear c2); (try clear p2); (try clear q2); (try clear hx2); (try clear c3); (try clear c5); (try clear c5b0); (try clear c5b1); (try clear c6); (try clear p6); (try clear c7); (try clear c12); (try clear c14); (try clear c14b0); (try clear c15); (try clear c16); (try clear c16b0); (try clear c17); (try clear c17b0); (try clear c18); (try clear c18b0); (try clear c19); (try clear c19b0); (try clear c20); (try clear c20b0); (try clear p20); (try clear q20); (try clear hx20); (try clear c22); (try clear c24); (try clear c24b0); (try clear c24b1); (try clear c25); (try clear c25b0); (try clear c25b1); (try clear c26); (try clear c26b0); (try clear c26b1); (try clear c28); (try clear c31); (try clear c31b0); (try clear c31b1); (try clear c32); (try clear c32b0); (try clear c32b1); (try clear hx201_0); (try clear hx202_0); (try clear hx203_0); (try clear hx204_0); (try clear hx205_0); (try clear hx206_0); (try clear hx207_0); (try clear p2); (try clear p201); (try clear p202); (try clear p203); (try clear p204); (try clear p205); (try clear p206); (try clear p207); (try clear q201); (try clear q202); (try clear q203); (try clear q204); (try clear q205); (try clear q206); (try clear q207)
         obtain ⟨kq, HA, HJ20, HO_9, HB⟩ := hcut
         cases kq with
         | zero => exact absurd HA.out (by simp [athanorlaw03_ShapePlaces.j2])
         | succ kj20 =>
          have H := HA.out
          clear HA
          simp only [athanorlaw03_ShapePlaces.j2] at H
          have HC33 := Aside0.mk H
          clear H
          go_upto_region 22 with (fail)
          repeat (go_quiet (fail); go_upto_region 22 with (fail))
          go_cut [136] (fun v136 wc => ∃ (kq : Nat) (x136_32 : Bool), v136 = .bool x136_32 ∧ Aside0 (athanorlaw03_ShapePlaces.j3 kq l0 a2 t195 t196 x136_32 = some r) ∧ Aside0 (kq ≤ kj20) ∧ Aside0 (Kd.R (Kd.int .i64) 3 wc w.heap.size (fun _ => True) v197 t195) ∧ Aside0 (Below w.heap.size w wc))
          case first =>
           have H := HC33.out
           clear HC33
           by_cases c34 : a2 < 0
           ·rw [if_pos c34] at H
            have c34b0 : decide (a2 < 0) = true := decide_eq_true c34
            clear c34
            (first | rw [c34b0] | (simp only [i64_w, i32_w]; rw [c34b0]) | skip)
            as_aux_lemma =>
             have H' := Aside0.mk H
             clear H
             go_wp2
             repeat (go_quiet (fail); try go_wp2)
             go_meet
             case rel => exact ⟨_, (true), (by first | rfl | (simp; done) | (simp [*]; done)), H', ⟨by have := HJ3.out; have := HK2.out; have := HJ20.out; first | omega|exact Nat.le_refl _⟩, ⟨by (with_reducible repeat (first|apply rA|apply rN|apply rD)); exact HO_9.out⟩, ⟨by repeat (first | (with_reducible first|exact HB.out|apply bA|apply bN|apply bD)|exact HB.out)⟩⟩
           ·rw [if_neg c34] at H
            have c34b0 : decide (a2 < 0) = false := decide_eq_false c34
            clear c34
            (first | rw [c34b0] | (simp only [i64_w, i32_w]; rw [c34b0]) | skip)
            replace H := Option.bind_eq_some_iff.mp H
            obtain ⟨t213, A350, H⟩ := H
            replace H : (athanorlaw03_ShapePlaces.j3 kj20 l0 a2 t195 t196 (decide (a2 ≥ t213))) = some r := H
            have A35 := Aside0.mk A350
            clear A350
            as_aux_lemma =>
             have H' := Aside0.mk H
             clear H
             go_wp2_with (first | (go_at_call 15; (with_reducible refine (athanorref03_Size.calls kj20 _ _ l0 t213 _ ?side1 ?side2 A35.out).mono ?_); (case side1 => repeat (first|exact (Kd.C_below HR0.out HB.out) | (with_reducible refine cA ?_ _) | (with_reducible refine cN ?_ _) | (with_reducible refine cD ?_))); (case side2 => exact HC0.out); rintro e w' ⟨rfl, ⟨nd, rfl⟩⟩; (try first|exact ⟨rfl, _, World.drewN_drewN _ _ _⟩|exact ⟨rfl, _, Eq.trans (World.drewN_drewN _ _ _) (congrArg (World.drewN _) (Nat.add_assoc _ _ _))⟩)))
             repeat (go_quiet (first | (go_at_call 15; (with_reducible refine (athanorref03_Size.calls kj20 _ _ l0 t213 _ ?side1 ?side2 A35.out).mono ?_); (case side1 => repeat (first|exact (Kd.C_below HR0.out HB.out) | (with_reducible refine cA ?_ _) | (with_reducible refine cN ?_ _) | (with_reducible refine cD ?_))); (case side2 => exact HC0.out); rintro e w' ⟨rfl, ⟨nd, rfl⟩⟩; (try first|exact ⟨rfl, _, World.drewN_drewN _ _ _⟩|exact ⟨rfl, _, Eq.trans (World.drewN_drewN _ _ _) (congrArg (World.drewN _) (Nat.add_assoc _ _ _))⟩))); try go_wp2_with (first | (go_at_call 15; (with_reducible refine (athanorref03_Size.calls kj20 _ _ l0 t213 _ ?side1 ?side2 A35.out).mono ?_); (case side1 => repeat (first|exact (Kd.C_below HR0.out HB.out) | (with_reducible refine cA ?_ _) | (with_reducible refine cN ?_ _) | (with_reducible refine cD ?_))); (case side2 => exact HC0.out); rintro e w' ⟨rfl, ⟨nd, rfl⟩⟩; (try first|exact ⟨rfl, _, World.drewN_drewN _ _ _⟩|exact ⟨rfl, _, Eq.trans (World.drewN_drewN _ _ _) (congrArg (World.drewN _) (Nat.add_assoc _ _ _))⟩))))
             go_meet
             case rel => exact ⟨_, (decide (a2 ≥ t213)), (by first | rfl | (simp; done) | (simp [*]; done)), H', ⟨by have := HJ3.out; have := HK2.out; have := HJ20.out; first | omega|exact Nat.le_refl _⟩, ⟨by (with_reducible repeat (first|apply rA|apply rN|apply rD)); exact HO_9.out⟩, ⟨by repeat (first | (with_reducible first|exact HB.out|apply bA|apply bN|apply bD)|exact HB.out)⟩⟩
          case rest =>
           clear HC33
           (try clear c1); (try clear c2); (try clear p2); (try clear q2); (try clear hx2); (try clear c3); (try clear c5); (try clear c5b0); (try clear c5b1); (try clear c6); (try clear p6); (try clear c7); (try clear c12); (try clear c14); (try clear c14b0); (try clear c15); (try clear c16); (try clear c16b0); (try clear c17); (try clear c17b0); (try clear c18); (try clear c18b0); (try clear c19); (try clear c19b0); (try clear c20); (try clear c20b0); (try clear p20); (try clear q20); (try clear hx20); (try clear c22); (try clear c24); (try clear c24b0); (try clear c24b1); (try clear c25); (try clear c25b0); (try clear c25b1); (try clear c26); (try clear c26b0); (try clear c26b1); (try clear c28); (try clear c31); (try clear c31b0); (try clear c31b1); (try clear c32); (try clear c32b0); (try clear c32b1); (try clear c34); (try clear c34b0); (try clear hx201_0); (try clear hx202_0); (try clear hx203_0); (try clear hx204_0); (try clear hx205_0); (try clear hx206_0); (try clear hx207_0); (try clear p2); (try clear p20); (try clear p201); (try clear p202); (try clear p203); (try clear p204); (try clear p205); (try clear p206); (try clear p207); (try clear p6); (try clear q2); (try clear q20); (try clear q201); (try clear q202); (try clear q203); (try clear q204); (try clear q205); (try clear q206); (try clear q207)
           obtain ⟨kq, x136_32, rfl, HA, HJ32, HO_9, HB⟩ := hcut
           cases kq with
           | zero => exact absurd HA.out (by simp [athanorlaw03_ShapePlaces.j3])
           | succ kj32 =>
            have H := HA.out
            clear HA
            simp only [athanorlaw03_ShapePlaces.j3] at H
            by_cases c36 : x136_32 = true
            ·subst c36
             have H1 : (if t196 = 11 then (if (t195.length : Int) = 0 then ((athanorlaw03_awake.f kj32).bind fun t214 => (some t214)) else (none)) else (none)) = some r := by rw [if_pos rfl] at H; exact H
             clear H
             have H := H1
             clear H1
             by_cases c37 : t196 = 11
             ·rw [if_pos c37] at H
              have c37b0 : (t196 == 11) = true := beq_iff_eq.mpr c37
              have c37b1 : (t196 != 11) = false := bne_eq_false_iff_eq.mpr c37
              clear c37
              by_cases c38 : (t195.length : Int) = 0
              ·rw [if_pos c38] at H
               have c38b0 : ((t195.length : Int) == 0) = true := beq_iff_eq.mpr c38
               have c38b1 : ((t195.length : Int) != 0) = false := bne_eq_false_iff_eq.mpr c38
               clear c38
               replace H := Option.bind_eq_some_iff.mp H
               obtain ⟨t214, A390, H⟩ := H
               replace H : (some t214) = some r := H
               have A39 := Aside0.mk A390
               clear A390
               as_aux_lemma =>
                obtain rfl := Option.some.inj H
                obtain ⟨Ao40, co40, eo40⟩ := Kd.R_slice HO_9.out
                subst eo40
                go_wp2_with (first | (go_at_call 9; (with_reducible refine (athanorlaw03_awake.calls kj32  t214 _ A39.out).mono ?_); rintro e w41 ⟨rfl, hb⟩; have n0_ := Aside0.mk (Kd.R_below (by (with_reducible repeat (first|apply rA|apply rN|apply rD)); exact HO_9.out) hb); have n1_ := Aside0.mk (below_step (by repeat (first | (with_reducible first|exact HB.out|apply bA|apply bN|apply bD)|exact HB.out)) hb); clear HO_9; clear HB; have HO_9 := n0_; have HB := n1_; clear n0_ n1_; (try clear hb); (try clear hb2); (try clear hk); (try clear hi)))
                repeat (go_quiet (first | (go_at_call 9; (with_reducible refine (athanorlaw03_awake.calls kj32  t214 _ A39.out).mono ?_); rintro e w41 ⟨rfl, hb⟩; have n0_ := Aside0.mk (Kd.R_below (by (with_reducible repeat (first|apply rA|apply rN|apply rD)); exact HO_9.out) hb); have n1_ := Aside0.mk (below_step (by repeat (first | (with_reducible first|exact HB.out|apply bA|apply bN|apply bD)|exact HB.out)) hb); clear HO_9; clear HB; have HO_9 := n0_; have HB := n1_; clear n0_ n1_; (try clear hb); (try clear hb2); (try clear hk); (try clear hi))); try go_wp2_with (first | (go_at_call 9; (with_reducible refine (athanorlaw03_awake.calls kj32  t214 _ A39.out).mono ?_); rintro e w41 ⟨rfl, hb⟩; have n0_ := Aside0.mk (Kd.R_below (by (with_reducible repeat (first|apply rA|apply rN|apply rD)); exact HO_9.out) hb); have n1_ := Aside0.mk (below_step (by repeat (first | (with_reducible first|exact HB.out|apply bA|apply bN|apply bD)|exact HB.out)) hb); clear HO_9; clear HB; have HO_9 := n0_; have HB := n1_; clear n0_ n1_; (try clear hb); (try clear hb2); (try clear hk); (try clear hi))))
                go_ret
                exact ⟨by first | rfl | (simp [errW_none, errW_some] <;> rfl) | (simp [*, errW_none, errW_some] <;> rfl), by repeat (first | (with_reducible first|exact HB.out|apply bA|apply bN|apply bD)|exact HB.out)⟩
              ·rw [if_neg c38] at H
               exact absurd H (by simp)
             ·rw [if_neg c37] at H
              exact absurd H (by simp)
            ·replace c36 := Bool.eq_false_iff.mpr c36
             subst c36
             have H1 : ((shape_Shape_Place.f kj32 l0 t195).bind fun bt215 => (if t196 = 0 then (if bt215.2 = 0 then (if bt215.1 = a2 then ((athanorlaw03_awake.f kj32).bind fun t217 => (some t217)) else (none)) else (none)) else (none))) = some r := by rw [if_neg (show ¬ (false = true) by decide)] at H; exact H
             clear H
             have H := H1
             clear H1
             replace H := Option.bind_eq_some_iff.mp H
             obtain ⟨⟨t215, t216⟩, A420, H⟩ := H
             replace H : (if t196 = 0 then (if t216 = 0 then (if t215 = a2 then ((athanorlaw03_awake.f kj32).bind fun t217 => (some t217)) else (none)) else (none)) else (none)) = some r := H
             have A42 := Aside0.mk A420
             clear A420
             by_cases c43 : t196 = 0
             ·rw [if_pos c43] at H
              have c43b0 : (t196 == 0) = true := beq_iff_eq.mpr c43
              have c43b1 : (t196 != 0) = false := bne_eq_false_iff_eq.mpr c43
              clear c43
              by_cases c44 : t216 = 0
              ·rw [if_pos c44] at H
               have c44b0 : (t216 == 0) = true := beq_iff_eq.mpr c44
               have c44b1 : (t216 != 0) = false := bne_eq_false_iff_eq.mpr c44
               clear c44
               by_cases c45 : t215 = a2
               ·rw [if_pos c45] at H
                have c45b0 : (t215 == a2) = true := beq_iff_eq.mpr c45
                have c45b1 : (t215 != a2) = false := bne_eq_false_iff_eq.mpr c45
                clear c45
                replace H := Option.bind_eq_some_iff.mp H
                obtain ⟨t217, A460, H⟩ := H
                replace H : (some t217) = some r := H
                have A46 := Aside0.mk A460
                clear A460
                as_aux_lemma =>
                 obtain rfl := Option.some.inj H
                 obtain ⟨Ao47, co47, eo47⟩ := Kd.R_slice HO_9.out
                 subst eo47
                 go_wp2_with (first | (go_at_call 21; (with_reducible refine (shape_Shape_Place.calls kj32 _ _ l0 _ _ t195 t215 t216 _ ?side1 ?side2 ?side3 ?side4 A42.out).mono ?_); (case side1 => repeat (first|exact (Kd.C_below HR0.out HB.out) | (with_reducible refine cA ?_ _) | (with_reducible refine cN ?_ _) | (with_reducible refine cD ?_))); (case side2 => exact HC0.out); (case side3 => repeat (first|exact (Kd.R_reads' HO_9.out).2.2 | (with_reducible refine cA ?_ _) | (with_reducible refine cN ?_ _) | (with_reducible refine cD ?_))); (case side4 => exact (Kd.R_reads' HO_9.out).2.1); rintro e w' ⟨rfl, ⟨nd, rfl⟩⟩; (try first|exact ⟨rfl, _, World.drewN_drewN _ _ _⟩|exact ⟨rfl, _, Eq.trans (World.drewN_drewN _ _ _) (congrArg (World.drewN _) (Nat.add_assoc _ _ _))⟩)) | (go_at_call 9; (with_reducible refine (athanorlaw03_awake.calls kj32  t217 _ A46.out).mono ?_); rintro e w48 ⟨rfl, hb⟩; have n0_ := Aside0.mk (Kd.R_below (by (with_reducible repeat (first|apply rA|apply rN|apply rD)); exact HO_9.out) hb); have n1_ := Aside0.mk (below_step (by repeat (first | (with_reducible first|exact HB.out|apply bA|apply bN|apply bD)|exact HB.out)) hb); clear HO_9; clear HB; have HO_9 := n0_; have HB := n1_; clear n0_ n1_; (try clear hb); (try clear hb2); (try clear hk); (try clear hi)))
                 repeat (go_quiet (first | (go_at_call 21; (with_reducible refine (shape_Shape_Place.calls kj32 _ _ l0 _ _ t195 t215 t216 _ ?side1 ?side2 ?side3 ?side4 A42.out).mono ?_); (case side1 => repeat (first|exact (Kd.C_below HR0.out HB.out) | (with_reducible refine cA ?_ _) | (with_reducible refine cN ?_ _) | (with_reducible refine cD ?_))); (case side2 => exact HC0.out); (case side3 => repeat (first|exact (Kd.R_reads' HO_9.out).2.2 | (with_reducible refine cA ?_ _) | (with_reducible refine cN ?_ _) | (with_reducible refine cD ?_))); (case side4 => exact (Kd.R_reads' HO_9.out).2.1); rintro e w' ⟨rfl, ⟨nd, rfl⟩⟩; (try first|exact ⟨rfl, _, World.drewN_drewN _ _ _⟩|exact ⟨rfl, _, Eq.trans (World.drewN_drewN _ _ _) (congrArg (World.drewN _) (Nat.add_assoc _ _ _))⟩)) | (go_at_call 9; (with_reducible refine (athanorlaw03_awake.calls kj32  t217 _ A46.out).mono ?_); rintro e w48 ⟨rfl, hb⟩; have n0_ := Aside0.mk (Kd.R_below (by (with_reducible repeat (first|apply rA|apply rN|apply rD)); exact HO_9.out) hb); have n1_ := Aside0.mk (below_step (by repeat (first | (with_reducible first|exact HB.out|apply bA|apply bN|apply bD)|exact HB.out)) hb); clear HO_9; clear HB; have HO_9 := n0_; have HB := n1_; clear n0_ n1_; (try clear hb); (try clear hb2); (try clear hk); (try clear hi))); try go_wp2_with (first | (go_at_call 21; (with_reducible refine (shape_Shape_Place.calls kj32 _ _ l0 _ _ t195 t215 t216 _ ?side1 ?side2 ?side3 ?side4 A42.out).mono ?_); (case side1 => repeat (first|exact (Kd.C_below HR0.out HB.out) | (with_reducible refine cA ?_ _) | (with_reducible refine cN ?_ _) | (with_reducible refine cD ?_))); (case side2 => exact HC0.out); (case side3 => repeat (first|exact (Kd.R_reads' HO_9.out).2.2 | (with_reducible refine cA ?_ _) | (with_reducible refine cN ?_ _) | (with_reducible refine cD ?_))); (case side4 => exact (Kd.R_reads' HO_9.out).2.1); rintro e w' ⟨rfl, ⟨nd, rfl⟩⟩; (try first|exact ⟨rfl, _, World.drewN_drewN _ _ _⟩|exact ⟨rfl, _, Eq.trans (World.drewN_drewN _ _ _) (congrArg (World.drewN _) (Nat.add_assoc _ _ _))⟩)) | (go_at_call 9; (with_reducible refine (athanorlaw03_awake.calls kj32  t217 _ A46.out).mono ?_); rintro e w48 ⟨rfl, hb⟩; have n0_ := Aside0.mk (Kd.R_below (by (with_reducible repeat (first|apply rA|apply rN|apply rD)); exact HO_9.out) hb); have n1_ := Aside0.mk (below_step (by repeat (first | (with_reducible first|exact HB.out|apply bA|apply bN|apply bD)|exact HB.out)) hb); clear HO_9; clear HB; have HO_9 := n0_; have HB := n1_; clear n0_ n1_; (try clear hb); (try clear hb2); (try clear hk); (try clear hi))))
                 go_ret
                 exact ⟨by first | rfl | (simp [errW_none, errW_some] <;> rfl) | (simp [*, errW_none, errW_some] <;> rfl), by repeat (first | (with_reducible first|exact HB.out|apply bA|apply bN|apply bD)|exact HB.out)⟩
               ·rw [if_neg c45] at H
                exact absurd H (by simp)
              ·rw [if_neg c44] at H
               exact absurd H (by simp)
             ·rw [if_neg c43] at H
              exact absurd H (by simp)
    ·replace c12 := Bool.eq_false_iff.mpr c12
     subst c12
     have H1 : (if t194 = 20 then (if t193 = 0 then (if t196 = 20 then (if (t195.length : Int) = 0 then ((athanorlaw03_awake.f kj3).bind fun t200 => (some t200)) else (none)) else (none)) else (none)) else (none)) = some r := by rw [if_neg (show ¬ (false = true) by decide)] at H; exact H
     clear H
     have H := H1
     clear H1
     by_cases c49 : t194 = 20
     ·rw [if_pos c49] at H
      have c49b0 : (t194 == 20) = true := beq_iff_eq.mpr c49
      have c49b1 : (t194 != 20) = false := bne_eq_false_iff_eq.mpr c49
      clear c49
      by_cases c50 : t193 = 0
      ·rw [if_pos c50] at H
       have c50b0 : (t193 == 0) = true := beq_iff_eq.mpr c50
       have c50b1 : (t193 != 0) = false := bne_eq_false_iff_eq.mpr c50
       clear c50
       by_cases c51 : t196 = 20
       ·rw [if_pos c51] at H
        have c51b0 : (t196 == 20) = true := beq_iff_eq.mpr c51
        have c51b1 : (t196 != 20) = false := bne_eq_false_iff_eq.mpr c51
        clear c51
        by_cases c52 : (t195.length : Int) = 0
        ·rw [if_pos c52] at H
         have c52b0 : ((t195.length : Int) == 0) = true := beq_iff_eq.mpr c52
         have c52b1 : ((t195.length : Int) != 0) = false := bne_eq_false_iff_eq.mpr c52
         clear c52
         replace H := Option.bind_eq_some_iff.mp H
         obtain ⟨t200, A530, H⟩ := H
         replace H : (some t200) = some r := H
         have A53 := Aside0.mk A530
         clear A530
         as_aux_lemma =>
          obtain rfl := Option.some.inj H
          go_wp2_with (first | (go_at_call 21; (with_reducible refine (shape_Shape_Place.calls kj3 _ _ l0 _ _ l1 t193 t194 _ ?side1 ?side2 ?side3 ?side4 A9.out).mono ?_); (case side1 => repeat (first|exact (Kd.C_below HR0.out HB.out) | (with_reducible refine cA ?_ _) | (with_reducible refine cN ?_ _) | (with_reducible refine cD ?_))); (case side2 => exact HC0.out); (case side3 => repeat (first|exact (Kd.C_below HR1.out HB.out) | (with_reducible refine cA ?_ _) | (with_reducible refine cN ?_ _) | (with_reducible refine cD ?_))); (case side4 => exact HC1.out); rintro e w' ⟨rfl, ⟨nd, rfl⟩⟩; (try first|exact ⟨rfl, _, World.drewN_drewN _ _ _⟩|exact ⟨rfl, _, Eq.trans (World.drewN_drewN _ _ _) (congrArg (World.drewN _) (Nat.add_assoc _ _ _))⟩)) | (go_at_call 22; (with_reducible refine (shape_Shape_At.calls kj3 _ _ l0 a2 t195 t196 _ ?side1 ?side2 A10.out).mono ?_); (case side1 => repeat (first|exact (Kd.C_below HR0.out (by repeat (first | (with_reducible first|exact HB.out|apply bA|apply bN|apply bD)|exact HB.out))) | (with_reducible refine cA ?_ _) | (with_reducible refine cN ?_ _) | (with_reducible refine cD ?_))); (case side2 => exact HC0.out); rintro e w54 ⟨v197, rfl, ho0, hb⟩; have n0_ := Aside0.mk (Kd.R_lower ho0 (below_size (by repeat (first | (with_reducible first|exact HB.out|apply bA|apply bN|apply bD)|exact HB.out)))); have n1_ := Aside0.mk (below_step (by repeat (first | (with_reducible first|exact HB.out|apply bA|apply bN|apply bD)|exact HB.out)) hb); clear HB; have HO198 := n0_; have HB := n1_; clear n0_ n1_; (try clear hb); (try clear hb2); (try clear hk); (try clear hi); (try clear ho0)) | (go_at_call 11; (with_reducible refine (athanorref03_Right.calls kj3 _ _ l0 false _ ?side1 ?side2 A11.out).mono ?_); (case side1 => repeat (first|exact (Kd.C_below HR0.out HB.out) | (with_reducible refine cA ?_ _) | (with_reducible refine cN ?_ _) | (with_reducible refine cD ?_))); (case side2 => exact HC0.out); rintro e w' ⟨rfl, ⟨nd, rfl⟩⟩; (try first|exact ⟨rfl, _, World.drewN_drewN _ _ _⟩|exact ⟨rfl, _, Eq.trans (World.drewN_drewN _ _ _) (congrArg (World.drewN _) (Nat.add_assoc _ _ _))⟩); obtain ⟨Ao55, co55, eo55⟩ := Kd.R_slice HO198.out; subst eo55) | (go_at_call 9; (with_reducible refine (athanorlaw03_awake.calls kj3  t200 _ A53.out).mono ?_); rintro e w56 ⟨rfl, hb⟩; have n0_ := Aside0.mk (Kd.R_below (by (with_reducible repeat (first|apply rA|apply rN|apply rD)); exact HO198.out) hb); have n1_ := Aside0.mk (below_step (by repeat (first | (with_reducible first|exact HB.out|apply bA|apply bN|apply bD)|exact HB.out)) hb); clear HO198; clear HB; have HO198 := n0_; have HB := n1_; clear n0_ n1_; (try clear hb); (try clear hb2); (try clear hk); (try clear hi)))
          repeat (go_quiet (first | (go_at_call 21; (with_reducible refine (shape_Shape_Place.calls kj3 _ _ l0 _ _ l1 t193 t194 _ ?side1 ?side2 ?side3 ?side4 A9.out).mono ?_); (case side1 => repeat (first|exact (Kd.C_below HR0.out HB.out) | (with_reducible refine cA ?_ _) | (with_reducible refine cN ?_ _) | (with_reducible refine cD ?_))); (case side2 => exact HC0.out); (case side3 => repeat (first|exact (Kd.C_below HR1.out HB.out) | (with_reducible refine cA ?_ _) | (with_reducible refine cN ?_ _) | (with_reducible refine cD ?_))); (case side4 => exact HC1.out); rintro e w' ⟨rfl, ⟨nd, rfl⟩⟩; (try first|exact ⟨rfl, _, World.drewN_drewN _ _ _⟩|exact ⟨rfl, _, Eq.trans (World.drewN_drewN _ _ _) (congrArg (World.drewN _) (Nat.add_assoc _ _ _))⟩)) | (go_at_call 22; (with_reducible refine (shape_Shape_At.calls kj3 _ _ l0 a2 t195 t196 _ ?side1 ?side2 A10.out).mono ?_); (case side1 => repeat (first|exact (Kd.C_below HR0.out (by repeat (first | (with_reducible first|exact HB.out|apply bA|apply bN|apply bD)|exact HB.out))) | (with_reducible refine cA ?_ _) | (with_reducible refine cN ?_ _) | (with_reducible refine cD ?_))); (case side2 => exact HC0.out); rintro e w54 ⟨v197, rfl, ho0, hb⟩; have n0_ := Aside0.mk (Kd.R_lower ho0 (below_size (by repeat (first | (with_reducible first|exact HB.out|apply bA|apply bN|apply bD)|exact HB.out)))); have n1_ := Aside0.mk (below_step (by repeat (first | (with_reducible first|exact HB.out|apply bA|apply bN|apply bD)|exact HB.out)) hb); clear HB; have HO198 := n0_; have HB := n1_; clear n0_ n1_; (try clear hb); (try clear hb2); (try clear hk); (try clear hi); (try clear ho0)) | (go_at_call 11; (with_reducible refine (athanorref03_Right.calls kj3 _ _ l0 false _ ?side1 ?side2 A11.out).mono ?_); (case side1 => repeat (first|exact (Kd.C_below HR0.out HB.out) | (with_reducible refine cA ?_ _) | (with_reducible refine cN ?_ _) | (with_reducible refine cD ?_))); (case side2 => exact HC0.out); rintro e w' ⟨rfl, ⟨nd, rfl⟩⟩; (try first|exact ⟨rfl, _, World.drewN_drewN _ _ _⟩|exact ⟨rfl, _, Eq.trans (World.drewN_drewN _ _ _) (congrArg (World.drewN _) (Nat.add_assoc _ _ _))⟩); obtain ⟨Ao55, co55, eo55⟩ := Kd.R_slice HO198.out; subst eo55) | (go_at_call 9; (with_reducible refine (athanorlaw03_awake.calls kj3  t200 _ A53.out).mono ?_); rintro e w56 ⟨rfl, hb⟩; have n0_ := Aside0.mk (Kd.R_below (by (with_reducible repeat (first|apply rA|apply rN|apply rD)); exact HO198.out) hb); have n1_ := Aside0.mk (below_step (by repeat (first | (with_reducible first|exact HB.out|apply bA|apply bN|apply bD)|exact HB.out)) hb); clear HO198; clear HB; have HO198 := n0_; have HB := n1_; clear n0_ n1_; (try clear hb); (try clear hb2); (try clear hk); (try clear hi))); try go_wp2_with (first | (go_at_call 21; (with_reducible refine (shape_Shape_Place.calls kj3 _ _ l0 _ _ l1 t193 t194 _ ?side1 ?side2 ?side3 ?side4 A9.out).mono ?_); (case side1 => repeat (first|exact (Kd.C_below HR0.out HB.out) | (with_reducible refine cA ?_ _) | (with_reducible refine cN ?_ _) | (with_reducible refine cD ?_))); (case side2 => exact HC0.out); (case side3 => repeat (first|exact (Kd.C_below HR1.out HB.out) | (with_reducible refine cA ?_ _) | (with_reducible refine cN ?_ _) | (with_reducible refine cD ?_))); (case side4 => exact HC1.out); rintro e w' ⟨rfl, ⟨nd, rfl⟩⟩; (try first|exact ⟨rfl, _, World.drewN_drewN _ _ _⟩|exact ⟨rfl, _, Eq.trans (World.drewN_drewN _ _ _) (congrArg (World.drewN _) (Nat.add_assoc _ _ _))⟩)) | (go_at_call 22; (with_reducible refine (shape_Shape_At.calls kj3 _ _ l0 a2 t195 t196 _ ?side1 ?side2 A10.out).mono ?_); (case side1 => repeat (first|exact (Kd.C_below HR0.out (by repeat (first | (with_reducible first|exact HB.out|apply bA|apply bN|apply bD)|exact HB.out))) | (with_reducible refine cA ?_ _) | (with_reducible refine cN ?_ _) | (with_reducible refine cD ?_))); (case side2 => exact HC0.out); rintro e w54 ⟨v197, rfl, ho0, hb⟩; have n0_ := Aside0.mk (Kd.R_lower ho0 (below_size (by repeat (first | (with_reducible first|exact HB.out|apply bA|apply bN|apply bD)|exact HB.out)))); have n1_ := Aside0.mk (below_step (by repeat (first | (with_reducible first|exact HB.out|apply bA|apply bN|apply bD)|exact HB.out)) hb); clear HB; have HO198 := n0_; have HB := n1_; clear n0_ n1_; (try clear hb); (try clear hb2); (try clear hk); (try clear hi); (try clear ho0)) | (go_at_call 11; (with_reducible refine (athanorref03_Right.calls kj3 _ _ l0 false _ ?side1 ?side2 A11.out).mono ?_); (case side1 => repeat (first|exact (Kd.C_below HR0.out HB.out) | (with_reducible refine cA ?_ _) | (with_reducible refine cN ?_ _) | (with_reducible refine cD ?_))); (case side2 => exact HC0.out); rintro e w' ⟨rfl, ⟨nd, rfl⟩⟩; (try first|exact ⟨rfl, _, World.drewN_drewN _ _ _⟩|exact ⟨rfl, _, Eq.trans (World.drewN_drewN _ _ _) (congrArg (World.drewN _) (Nat.add_assoc _ _ _))⟩); obtain ⟨Ao55, co55, eo55⟩ := Kd.R_slice HO198.out; subst eo55) | (go_at_call 9; (with_reducible refine (athanorlaw03_awake.calls kj3  t200 _ A53.out).mono ?_); rintro e w56 ⟨rfl, hb⟩; have n0_ := Aside0.mk (Kd.R_below (by (with_reducible repeat (first|apply rA|apply rN|apply rD)); exact HO198.out) hb); have n1_ := Aside0.mk (below_step (by repeat (first | (with_reducible first|exact HB.out|apply bA|apply bN|apply bD)|exact HB.out)) hb); clear HO198; clear HB; have HO198 := n0_; have HB := n1_; clear n0_ n1_; (try clear hb); (try clear hb2); (try clear hk); (try clear hi))))
          go_ret
          exact ⟨by first | rfl | (simp [errW_none, errW_some] <;> rfl) | (simp [*, errW_none, errW_some] <;> rfl), by repeat (first | (with_reducible first|exact HB.out|apply bA|apply bN|apply bD)|exact HB.out)⟩
        ·rw [if_neg c52] at H
         exact absurd H (by simp)
       ·rw [if_neg c51] at H
        exact absurd H (by simp)
      ·rw [if_neg c50] at H
       exact absurd H (by simp)
     ·rw [if_neg c49] at H
      exact absurd H (by simp)

/-- THE ONE PURE STATEMENT of athanorlaw03_ShapePlaces: yours. -/
def athanorlaw03_ShapePlaces.Pure : Prop := ∀ (l0 : List Int) (l1 : List Int) (a2 : Int), l0.length ≤ maxLen → l0.length * 8 ≤ 140737488351232 → (∀ x ∈ l0, (Lit.int .i64 x).wf = true) → l1.length ≤ maxLen → l1.length * 8 ≤ 140737488351232 → (∀ x ∈ l1, (Lit.int .i64 x).wf = true) → (Lit.int .i64 a2).wf = true → ∃ k, athanorlaw03_ShapePlaces.f k l0 l1 a2 = some true
theorem athanorlaw03_ShapePlaces.walk (P : athanorlaw03_ShapePlaces.Pure) (a0 : Option Addr) (len0 cap0 : Nat) (z0 : List Int) (a1 : Option Addr) (len1 cap1 : Nat) (z1 : List Int) (a2 : Int) (w : World) (w0 : (a0 = none ∧ len0 = 0 ∧ cap0 = 0 ∧ z0 = []) ∨ ∃ x, a0 = some x ∧ len0 ≤ cap0 ∧ cap0 ≤ maxLen ∧ z0.length = cap0 ∧ (∀ i, i < z0.length → w.cell? (x.add i) = some (.int .i64 (z0.getD i 0))) ∧ ∀ n ∈ z0, (Lit.int .i64 n).wf = true) (y0 : len0 * 8 ≤ 140737488351232) (w1 : (a1 = none ∧ len1 = 0 ∧ cap1 = 0 ∧ z1 = []) ∨ ∃ x, a1 = some x ∧ len1 ≤ cap1 ∧ cap1 ≤ maxLen ∧ z1.length = cap1 ∧ (∀ i, i < z1.length → w.cell? (x.add i) = some (.int .i64 (z1.getD i 0))) ∧ ∀ n ∈ z1, (Lit.int .i64 n).wf = true) (y1 : len1 * 8 ≤ 140737488351232) (w2 : (Lit.int .i64 a2).wf = true) :
  Calls Try.prog 7 #[.slice a0 len0 cap0, .slice a1 len1 cap1, .int .i64 a2] w fun e w' => e = .returned (.bool true) ∧ Below w.heap.size w w' := by
 obtain ⟨l0, rfl, hr0, hm0, hw0, hc0⟩ := ReadsInt.ofRowC w0
 obtain ⟨l1, rfl, hr1, hm1, hw1, hc1⟩ := ReadsInt.ofRowC w1
 obtain ⟨k, h⟩ := P l0 l1 a2 hm0 y0 hw0 hm1 y1 hw1 w2
 refine (athanorlaw03_ShapePlaces.calls k _ _ l0 _ _ l1 a2 true w (Kd.C_of_reads (d := (0 : Int)) (h1 := fun _ => rfl) hr0) hc0 (Kd.C_of_reads (d := (0 : Int)) (h1 := fun _ => rfl) hr1) hc1 h).mono ?_
 rintro e w' ⟨rfl, hd⟩
 exact ⟨rfl, hd⟩

end Go.Proofs.Ytdefilnjkacepaa.PPla
