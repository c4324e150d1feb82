-- printed by wip/tools/xp.py of this project (not trusted: Lean checks it)
import Derived.Test.YteaflkbepnfkdaaPSafex0
import Derived.Test.YteaflkbepnfkdaaPSafex1
import Derived.Test.YteaflkbepnfkdaaPSafex2
import Derived.Test.YteaflkbepnfkdaaPSafex4
namespace Go.Proofs.Yteaflkbepnfkdaa.PSafe
open Go.RowKit Go.Proofs.YteaflkbepnfkdaaW.PrintWords Go.Proofs.YteaflkbepnfkdaaW.PrintLast Go.Proofs.YteaflkbepnfkdaaW.PrintMore
attribute [local go_sem] max2_int min2_int max_two min_two max_three min_three max_four min_four   -- for this text's walks alone
set_option linter.unusedVariables false
set_option linter.unusedSimpArgs false

/-! ### athanorlaw02_SafeParts: function 7 -/
mutual
def athanorlaw02_SafeParts.j0 : Nat → Int → Int → List Int → Bool → Option (Bool)
  | 0, _, _, _, _ => none
  | k + 1, x0, x1, x2, x7 => (safe_Sub.f k x0 x1).bind fun bt183 => ((safe_Share.f x0 x1).bind fun bt185 => (if x7 = true then (if x1 > x0 then (if bt183.2 = 17 then (if bt183.1 = 0 then (athanorlaw02_SafeParts.j1 k x0 x1 x2 x7 bt185.1 bt185.2.1 bt185.2.2) else (some false)) else (some false)) else (if bt183.2 = 0 then (if bt183.1 = (wrap64 (x0 - x1)) then (athanorlaw02_SafeParts.j1 k x0 x1 x2 x7 bt185.1 bt185.2.1 bt185.2.2) else (some false)) else (some false))) else (if bt183.2 = 11 then (if bt183.1 = 0 then (athanorlaw02_SafeParts.j1 k x0 x1 x2 x7 bt185.1 bt185.2.1 bt185.2.2) else (some false)) else (some false))))
def athanorlaw02_SafeParts.j1 : Nat → Int → Int → List Int → Bool → Int → Int → Int → Option (Bool)
  | 0, _, _, _, _, _, _, _ => none
  | k + 1, x0, x1, x2, x7, x10, x11, x12 => if x7 = true then (athanorlaw02_SafeParts.j2 k x0 x1 x2 x10 x11 x12 (decide (x1 > 0))) else (athanorlaw02_SafeParts.j2 k x0 x1 x2 x10 x11 x12 false)
def athanorlaw02_SafeParts.j2 : Nat → Int → Int → List Int → Int → Int → Int → Bool → Option (Bool)
  | 0, _, _, _, _, _, _, _ => none
  | k + 1, x0, x1, x2, x10, x11, x12, x71 => if x71 = true then (if x12 = 0 then (if (wrap64 ((wrap64 (x10 * x1)) + x11)) = x0 then (if x11 < 0 then (some false) else (if x11 ≥ x1 then (some false) else (athanorlaw02_SafeParts.j3 k x0 x2))) else (some false)) else (some false)) else (if x12 = 11 then (if x10 = 0 then (if x11 = 0 then (athanorlaw02_SafeParts.j3 k x0 x2) else (some false)) else (some false)) else (some false))
def athanorlaw02_SafeParts.j3 : Nat → Int → List Int → Option (Bool)
  | 0, _, _ => none
  | k + 1, x0, x2 => athanorlaw02_SafeParts.l0 k x0 x2 0 x2 (x2.length : Int) 0
def athanorlaw02_SafeParts.l0 : Nat → Int → List Int → Int → List Int → Int → Int → Option (Bool)
  | 0, _, _, _, _, _, _ => none
  | k + 1, x0, x2, x13, x102, x103, x104 => if x104 < x103 then (if 0 ≤ x104 then (if x104 < (x102.length : Int) then (athanorlaw02_SafeParts.l0 k x0 x2 (mx x13 (rd x102 x104)) x102 x103 (wrap64 (x104 + 1))) else (none)) else (none)) else ((safe_Max.f k x2).bind fun t189 => (if t189 = x13 then ((safe_Right.f x0).bind fun t190 => ((athanorref02_Right.f x0).bind fun t191 => (if (t190 == t191) = true then ((athanorlaw02_awake.f k).bind fun t192 => (some t192)) else (some false)))) else (some false)))
end
def athanorlaw02_SafeParts.f (k : Nat) (a0 : Int) (a1 : Int) (l2 : List Int) : Option (Bool) := if (l2.length : Int) > 200 then ((athanorlaw02_awake.f k).bind fun t180 => (some t180)) else ((athanorref02_Right.f a0).bind fun t181 => (if t181 = true then ((athanorref02_Right.f a1).bind fun t182 => (athanorlaw02_SafeParts.j0 k a0 a1 l2 t182)) else (athanorlaw02_SafeParts.j0 k a0 a1 l2 false)))
theorem athanorlaw02_SafeParts.mono_l : ∀ k, (∀ y0 y1 y2 y3, LeO (athanorlaw02_SafeParts.j0 k y0 y1 y2 y3) (athanorlaw02_SafeParts.j0 (k + 1) y0 y1 y2 y3)) ∧ (∀ y0 y1 y2 y3 y4 y5 y6, LeO (athanorlaw02_SafeParts.j1 k y0 y1 y2 y3 y4 y5 y6) (athanorlaw02_SafeParts.j1 (k + 1) y0 y1 y2 y3 y4 y5 y6)) ∧ (∀ y0 y1 y2 y3 y4 y5 y6, LeO (athanorlaw02_SafeParts.j2 k y0 y1 y2 y3 y4 y5 y6) (athanorlaw02_SafeParts.j2 (k + 1) y0 y1 y2 y3 y4 y5 y6)) ∧ (∀ y0 y1, LeO (athanorlaw02_SafeParts.j3 k y0 y1) (athanorlaw02_SafeParts.j3 (k + 1) y0 y1)) ∧ (∀ y0 y1 y2 y3 y4 y5, LeO (athanorlaw02_SafeParts.l0 k y0 y1 y2 y3 y4 y5) (athanorlaw02_SafeParts.l0 (k + 1) y0 y1 y2 y3 y4 y5))
  | 0 => ⟨fun _ _ _ _ r h => by simp [athanorlaw02_SafeParts.j0] at h, fun _ _ _ _ _ _ _ r h => by simp [athanorlaw02_SafeParts.j1] at h, fun _ _ _ _ _ _ _ r h => by simp [athanorlaw02_SafeParts.j2] at h, fun _ _ r h => by simp [athanorlaw02_SafeParts.j3] at h, fun _ _ _ _ _ _ r h => by simp [athanorlaw02_SafeParts.l0] at h⟩
  | k + 1 => by
    obtain ⟨ih0, ih1, ih2, ih3, ih4⟩ := athanorlaw02_SafeParts.mono_l k
    refine ⟨?_, ?_, ?_, ?_, ?_⟩
    · intro y0 y1 y2 y3
      unfold athanorlaw02_SafeParts.j0
      repeat' first
      | (with_reducible exact ih0 _ _ _ _)
      | (with_reducible exact ih1 _ _ _ _ _ _ _)
      | (with_reducible exact ih2 _ _ _ _ _ _ _)
      | (with_reducible exact ih3 _ _)
      | (with_reducible exact ih4 _ _ _ _ _ _)
      | (with_reducible exact athanorlaw02_awake.mono _)
      | (with_reducible exact safe_Max.mono _ _)
      | (with_reducible exact safe_Sub.mono _ _ _)
      | (with_reducible exact LeO.refl _)
      | (with_reducible exact LeO.none _)
      | (with_reducible refine LeO.ite ?_ ?_)
      | (with_reducible refine LeO.bind ?_ (fun _ => ?_))
      | exact ih0 _ _ _ _
      | exact ih1 _ _ _ _ _ _ _
      | exact ih2 _ _ _ _ _ _ _
      | exact ih3 _ _
      | exact ih4 _ _ _ _ _ _
      | exact athanorlaw02_awake.mono _
      | exact safe_Max.mono _ _
      | exact safe_Sub.mono _ _ _
      | exact LeO.none _
      | refine LeO.ite ?_ ?_
      | refine LeO.bind ?_ (fun _ => ?_)
    · intro y0 y1 y2 y3 y4 y5 y6
      unfold athanorlaw02_SafeParts.j1
      repeat' first
      | (with_reducible exact ih0 _ _ _ _)
      | (with_reducible exact ih1 _ _ _ _ _ _ _)
      | (with_reducible exact ih2 _ _ _ _ _ _ _)
      | (with_reducible exact ih3 _ _)
      | (with_reducible exact ih4 _ _ _ _ _ _)
      | (with_reducible exact athanorlaw02_awake.mono _)
      | (with_reducible exact safe_Max.mono _ _)
      | (with_reducible exact safe_Sub.mono _ _ _)
      | (with_reducible exact LeO.refl _)
      | (with_reducible exact LeO.none _)
      | (with_reducible refine LeO.ite ?_ ?_)
      | (with_reducible refine LeO.bind ?_ (fun _ => ?_))
      | exact ih0 _ _ _ _
      | exact ih1 _ _ _ _ _ _ _
      | exact ih2 _ _ _ _ _ _ _
      | exact ih3 _ _
      | exact ih4 _ _ _ _ _ _
      | exact athanorlaw02_awake.mono _
      | exact safe_Max.mono _ _
      | exact safe_Sub.mono _ _ _
      | exact LeO.none _
      | refine LeO.ite ?_ ?_
      | refine LeO.bind ?_ (fun _ => ?_)
    · intro y0 y1 y2 y3 y4 y5 y6
      unfold athanorlaw02_SafeParts.j2
      repeat' first
      | (with_reducible exact ih0 _ _ _ _)
      | (with_reducible exact ih1 _ _ _ _ _ _ _)
      | (with_reducible exact ih2 _ _ _ _ _ _ _)
      | (with_reducible exact ih3 _ _)
      | (with_reducible exact ih4 _ _ _ _ _ _)
      | (with_reducible exact athanorlaw02_awake.mono _)
      | (with_reducible exact safe_Max.mono _ _)
      | (with_reducible exact safe_Sub.mono _ _ _)
      | (with_reducible exact LeO.refl _)
      | (with_reducible exact LeO.none _)
      | (with_reducible refine LeO.ite ?_ ?_)
      | (with_reducible refine LeO.bind ?_ (fun _ => ?_))
      | exact ih0 _ _ _ _
      | exact ih1 _ _ _ _ _ _ _
      | exact ih2 _ _ _ _ _ _ _
      | exact ih3 _ _
      | exact ih4 _ _ _ _ _ _
      | exact athanorlaw02_awake.mono _
      | exact safe_Max.mono _ _
      | exact safe_Sub.mono _ _ _
      | exact LeO.none _
      | refine LeO.ite ?_ ?_
      | refine LeO.bind ?_ (fun _ => ?_)
    · intro y0 y1
      unfold athanorlaw02_SafeParts.j3
      repeat' first
      | (with_reducible exact ih0 _ _ _ _)
      | (with_reducible exact ih1 _ _ _ _ _ _ _)
      | (with_reducible exact ih2 _ _ _ _ _ _ _)
      | (with_reducible exact ih3 _ _)
      | (with_reducible exact ih4 _ _ _ _ _ _)
      | (with_reducible exact athanorlaw02_awake.mono _)
      | (with_reducible exact safe_Max.mono _ _)
      | (with_reducible exact safe_Sub.mono _ _ _)
      | (with_reducible exact LeO.refl _)
      | (with_reducible exact LeO.none _)
      | (with_reducible refine LeO.ite ?_ ?_)
      | (with_reducible refine LeO.bind ?_ (fun _ => ?_))
      | exact ih0 _ _ _ _
      | exact ih1 _ _ _ _ _ _ _
      | exact ih2 _ _ _ _ _ _ _
      | exact ih3 _ _
      | exact ih4 _ _ _ _ _ _
      | exact athanorlaw02_awake.mono _
      | exact safe_Max.mono _ _
      | exact safe_Sub.mono _ _ _
      | exact LeO.none _
      | refine LeO.ite ?_ ?_
      | refine LeO.bind ?_ (fun _ => ?_)
    · intro y0 y1 y2 y3 y4 y5
      unfold athanorlaw02_SafeParts.l0
      repeat' first
      | (with_reducible exact ih0 _ _ _ _)
      | (with_reducible exact ih1 _ _ _ _ _ _ _)
      | (with_reducible exact ih2 _ _ _ _ _ _ _)
      | (with_reducible exact ih3 _ _)
      | (with_reducible exact ih4 _ _ _ _ _ _)
      | (with_reducible exact athanorlaw02_awake.mono _)
      | (with_reducible exact safe_Max.mono _ _)
      | (with_reducible exact safe_Sub.mono _ _ _)
      | (with_reducible exact LeO.refl _)
      | (with_reducible exact LeO.none _)
      | (with_reducible refine LeO.ite ?_ ?_)
      | (with_reducible refine LeO.bind ?_ (fun _ => ?_))
      | exact ih0 _ _ _ _
      | exact ih1 _ _ _ _ _ _ _
      | exact ih2 _ _ _ _ _ _ _
      | exact ih3 _ _
      | exact ih4 _ _ _ _ _ _
      | exact athanorlaw02_awake.mono _
      | exact safe_Max.mono _ _
      | exact safe_Sub.mono _ _ _
      | exact LeO.none _
      | refine LeO.ite ?_ ?_
      | refine LeO.bind ?_ (fun _ => ?_)
theorem athanorlaw02_SafeParts.mono : ∀ a0 a1 a2 k, LeO (athanorlaw02_SafeParts.f k a0 a1 a2) (athanorlaw02_SafeParts.f (k + 1) a0 a1 a2) := by
  intro a0 a1 a2 k
  obtain ⟨ih0, ih1, ih2, ih3, ih4⟩ := athanorlaw02_SafeParts.mono_l k
  unfold athanorlaw02_SafeParts.f
  repeat' first
      | (with_reducible exact ih0 _ _ _ _)
      | (with_reducible exact ih1 _ _ _ _ _ _ _)
      | (with_reducible exact ih2 _ _ _ _ _ _ _)
      | (with_reducible exact ih3 _ _)
      | (with_reducible exact ih4 _ _ _ _ _ _)
      | (with_reducible exact athanorlaw02_awake.mono _)
      | (with_reducible exact safe_Max.mono _ _)
      | (with_reducible exact safe_Sub.mono _ _ _)
      | (with_reducible exact LeO.refl _)
      | (with_reducible exact LeO.none _)
      | (with_reducible refine LeO.ite ?_ ?_)
      | (with_reducible refine LeO.bind ?_ (fun _ => ?_))
      | exact ih0 _ _ _ _
      | exact ih1 _ _ _ _ _ _ _
      | exact ih2 _ _ _ _ _ _ _
      | exact ih3 _ _
      | exact ih4 _ _ _ _ _ _
      | exact athanorlaw02_awake.mono _
      | exact safe_Max.mono _ _
      | exact safe_Sub.mono _ _ _
      | exact LeO.none _
      | refine LeO.ite ?_ ?_
      | refine LeO.bind ?_ (fun _ => ?_)
set_option maxHeartbeats 8000000 in
set_option maxRecDepth 100000 in
theorem athanorlaw02_SafeParts.calls (k : Nat) (a0 : Int) (a1 : Int) (A2 : Option Addr) (c2 : Nat) (l2 : List Int) (r : Bool) (w : World) (hr2 : Kd.C (Kd.int .i64) w A2 l2.length l2) (hc2 : l2.length ≤ c2) (h : athanorlaw02_SafeParts.f k a0 a1 l2 = some r) :
    Calls Try.prog 7 #[.int .i64 a0, .int .i64 a1, .slice A2 l2.length c2] w fun e w' => e = .returned (.bool r) ∧ Below w.heap.size w w' := by
  have HR2 := Aside0.mk hr2
  have HC2 := Aside0.mk hc2
  clear hr2 hc2
  have HB := Aside0.mk (Below.refl w.heap.size w)
  have H : (if (l2.length : Int) > 200 then ((athanorlaw02_awake.f k).bind fun t180 => (some t180)) else ((athanorref02_Right.f a0).bind fun t181 => (if t181 = true then ((athanorref02_Right.f a1).bind fun t182 => (athanorlaw02_SafeParts.j0 k a0 a1 l2 t182)) else (athanorlaw02_SafeParts.j0 k a0 a1 l2 false)))) = some r := h
  clear h
  by_cases c4 : (l2.length : Int) > 200
  · rw [if_pos c4] at H
    have c4b0 : decide (200 < (l2.length : Int)) = true := decide_eq_true c4
    have c4b1 : decide (200 < l2.length) = true := decide_eq_true (by omega)
    clear c4
    replace H := Option.bind_eq_some_iff.mp H
    obtain ⟨t180, A50, H⟩ := H
    replace H : (some t180) = some r := H
    have A5 := Aside0.mk A50
    clear A50
    obtain rfl := Option.some.inj H
    go_enter Try.func7, Try.ntmps7
    go_wp2_with (first | ((with_reducible refine gate_callee (f := 8) rfl ?_); refine goesL_ (some 19) rfl rfl Try.func8 (by kernel_rfl) rfl #[] rfl (by (try simp only [List.map_toArray, List.map_cons, List.map_nil]); first | done | rfl | (simp only [List.length_drop, List.length_take]; rfl)) ?_; (with_reducible refine (athanorlaw02_awake.calls k  t180 _ A5.out).mono ?_); rintro e w6 ⟨rfl, hb⟩; refine ⟨_, rfl, ?_⟩; have n0_ := Aside0.mk (below_step (by repeat (first | (with_reducible first | exact HB.out | apply below_alloc | apply pw_below_drewN | apply below_drew1) | exact HB.out)) hb); clear HB; have HB := n0_; clear n0_; (try clear hb); (try clear hb2); (try clear hk); (try clear hi)))
    go_ret
    exact ⟨by first | rfl | (simp [errW_none, errW_some] <;> rfl) | (simp [*, errW_none, errW_some] <;> rfl), by repeat (first | (with_reducible first | exact HB.out | apply below_alloc | apply pw_below_drewN | apply below_drew1) | exact HB.out)⟩
  · rw [if_neg c4] at H
    have c4b0 : decide (200 < (l2.length : Int)) = false := decide_eq_false c4
    have c4b1 : decide (200 < l2.length) = false := decide_eq_false (by omega)
    clear c4
    have HC7 := Aside0.mk H
    clear H
    go_enter Try.func7, Try.ntmps7
    go_upto_region 3 with (fail)
    go_cut [7] (fun v7 wc => ∃ (kq : Nat) (x7_6 : Bool), v7 = .bool x7_6 ∧ Aside0 (athanorlaw02_SafeParts.j0 kq a0 a1 l2 x7_6 = some r) ∧ Aside0 (kq ≤ k) ∧ Aside0 (Below w.heap.size w wc))
    case first =>
      have H := HC7.out
      clear HC7
      replace H := Option.bind_eq_some_iff.mp H
      obtain ⟨t181, A80, H⟩ := H
      replace H : (if t181 = true then ((athanorref02_Right.f a1).bind fun t182 => (athanorlaw02_SafeParts.j0 k a0 a1 l2 t182)) else (athanorlaw02_SafeParts.j0 k a0 a1 l2 false)) = some r := H
      have A8 := Aside0.mk A80
      clear A80
      by_cases c9 : t181 = true
      · subst c9
        have H1 : ((athanorref02_Right.f a1).bind fun t182 => (athanorlaw02_SafeParts.j0 k a0 a1 l2 t182)) = some r := by rw [if_pos rfl] at H; exact H
        clear H
        have H := H1
        clear H1
        replace H := Option.bind_eq_some_iff.mp H
        obtain ⟨t182, A100, H⟩ := H
        replace H : (athanorlaw02_SafeParts.j0 k a0 a1 l2 t182) = some r := H
        have A10 := Aside0.mk A100
        clear A100
        have H' := Aside0.mk H
        clear H
        go_wp2_with (first | ((with_reducible refine gate_callee (f := 14) rfl ?_); refine goesL_ (some 21) rfl rfl Try.func14 (by kernel_rfl) rfl #[.int .i64 a0] rfl (by (try simp only [List.map_toArray, List.map_cons, List.map_nil]); first | done | rfl | (simp only [List.length_drop, List.length_take]; rfl)) ?_; (with_reducible refine (athanorref02_Right.calls a0 true _ A8.out).mono ?_); rintro e w' ⟨rfl, ⟨nd, rfl⟩⟩; refine ⟨_, rfl, ?_⟩) | (go_at_call 14; (with_reducible refine (athanorref02_Right.calls a1 t182 _ A10.out).mono ?_); rintro e w' ⟨rfl, ⟨nd, rfl⟩⟩))
        go_meet
        case rel => exact ⟨_, (t182), (by first | rfl | (simp; done) | (simp [*]; done)), H', ⟨by first | omega | exact Nat.le_refl _⟩, ⟨by repeat (first | (with_reducible first | exact HB.out | apply below_alloc | apply pw_below_drewN | apply below_drew1) | exact HB.out)⟩⟩
      · replace c9 := Bool.eq_false_iff.mpr c9
        subst c9
        have H1 : (athanorlaw02_SafeParts.j0 k a0 a1 l2 false) = some r := by rw [if_neg (show ¬ (false = true) by decide)] at H; exact H
        clear H
        have H := H1
        clear H1
        have H' := Aside0.mk H
        clear H
        go_wp2_with (first | ((with_reducible refine gate_callee (f := 14) rfl ?_); refine goesL_ (some 21) rfl rfl Try.func14 (by kernel_rfl) rfl #[.int .i64 a0] rfl (by (try simp only [List.map_toArray, List.map_cons, List.map_nil]); first | done | rfl | (simp only [List.length_drop, List.length_take]; rfl)) ?_; (with_reducible refine (athanorref02_Right.calls a0 false _ A8.out).mono ?_); rintro e w' ⟨rfl, ⟨nd, rfl⟩⟩; refine ⟨_, rfl, ?_⟩))
        go_meet
        case rel => exact ⟨_, (false), (by first | rfl | (simp; done) | (simp [*]; done)), H', ⟨by first | omega | exact Nat.le_refl _⟩, ⟨by repeat (first | (with_reducible first | exact HB.out | apply below_alloc | apply pw_below_drewN | apply below_drew1) | exact HB.out)⟩⟩
    case rest =>
      clear HC7
      try clear c1
      try clear c2
      try clear p2
      try clear c4
      try clear c4b0
      try clear c4b1
      try clear c7
      try clear c8
      try clear c9
      obtain ⟨kq, x7_6, rfl, HA, HJ6, HB⟩ := hcut
      cases kq with
      | zero => exact absurd HA.out (by simp [athanorlaw02_SafeParts.j0])
      | succ kj6 =>
        have H := HA.out
        clear HA
        simp only [athanorlaw02_SafeParts.j0] at H
        replace H := Option.bind_eq_some_iff.mp H
        obtain ⟨⟨t183, t184⟩, A110, H⟩ := H
        replace H : ((safe_Share.f a0 a1).bind fun bt185 => (if x7_6 = true then (if a1 > a0 then (if t184 = 17 then (if t183 = 0 then (athanorlaw02_SafeParts.j1 kj6 a0 a1 l2 x7_6 bt185.1 bt185.2.1 bt185.2.2) else (some false)) else (some false)) else (if t184 = 0 then (if t183 = (wrap64 (a0 - a1)) then (athanorlaw02_SafeParts.j1 kj6 a0 a1 l2 x7_6 bt185.1 bt185.2.1 bt185.2.2) else (some false)) else (some false))) else (if t184 = 11 then (if t183 = 0 then (athanorlaw02_SafeParts.j1 kj6 a0 a1 l2 x7_6 bt185.1 bt185.2.1 bt185.2.2) else (some false)) else (some false)))) = some r := H
        have A11 := Aside0.mk A110
        clear A110
        replace H := Option.bind_eq_some_iff.mp H
        obtain ⟨⟨t185, t186, t187⟩, A120, H⟩ := H
        replace H : (if x7_6 = true then (if a1 > a0 then (if t184 = 17 then (if t183 = 0 then (athanorlaw02_SafeParts.j1 kj6 a0 a1 l2 x7_6 t185 t186 t187) else (some false)) else (some false)) else (if t184 = 0 then (if t183 = (wrap64 (a0 - a1)) then (athanorlaw02_SafeParts.j1 kj6 a0 a1 l2 x7_6 t185 t186 t187) else (some false)) else (some false))) else (if t184 = 11 then (if t183 = 0 then (athanorlaw02_SafeParts.j1 kj6 a0 a1 l2 x7_6 t185 t186 t187) else (some false)) else (some false))) = some r := H
        have A12 := Aside0.mk A120
        clear A120
        have HC13 := Aside0.mk H
        clear H
        go_upto_block 0 with (first | ((with_reducible refine gate_callee (f := 15) rfl ?_); refine goesL_ (some 29) rfl rfl Try.func15 (by kernel_rfl) rfl #[.int .i64 a0, .int .i64 a1] rfl (by (try simp only [List.map_toArray, List.map_cons, List.map_nil]); first | done | rfl | (simp only [List.length_drop, List.length_take]; rfl)) ?_; (with_reducible refine (safe_Sub.calls kj6 a0 a1 t183 t184 _ A11.out).mono ?_); rintro e w' ⟨rfl, ⟨nd, rfl⟩⟩; refine ⟨_, rfl, ?_⟩) | ((with_reducible refine gate_callee (f := 16) rfl ?_); refine goesL_ (some 35) rfl rfl Try.func16 (by kernel_rfl) rfl #[.int .i64 a0, .int .i64 a1] rfl (by (try simp only [List.map_toArray, List.map_cons, List.map_nil]); first | done | rfl | (simp only [List.length_drop, List.length_take]; rfl)) ?_; (with_reducible refine (safe_Share.calls a0 a1 t185 t186 t187 _ A12.out).mono ?_); rintro e w' ⟨rfl, ⟨nd, rfl⟩⟩; refine ⟨_, rfl, ?_⟩))
        (try simp only [Act.put, List.setIfInBounds_toArray, List.set_cons_zero, List.set_cons_succ])
        go_cut [] (fun wc => ∃ (kq : Nat), Aside0 (athanorlaw02_SafeParts.j1 kq a0 a1 l2 x7_6 t185 t186 t187 = some r) ∧ Aside0 (kq ≤ kj6) ∧ Aside0 (Below w.heap.size w wc))
        case first =>
          have H := HC13.out
          clear HC13
          by_cases c14 : x7_6 = true
          · subst c14
            have H1 : (if a1 > a0 then (if t184 = 17 then (if t183 = 0 then (athanorlaw02_SafeParts.j1 kj6 a0 a1 l2 true t185 t186 t187) else (some false)) else (some false)) else (if t184 = 0 then (if t183 = (wrap64 (a0 - a1)) then (athanorlaw02_SafeParts.j1 kj6 a0 a1 l2 true t185 t186 t187) else (some false)) else (some false))) = some r := by rw [if_pos rfl] at H; exact H
            clear H
            have H := H1
            clear H1
            by_cases c15 : a1 > a0
            · rw [if_pos c15] at H
              have c15b0 : decide (a0 < a1) = true := decide_eq_true c15
              clear c15
              (first | rw [c15b0] | (simp only [i64_w, i32_w]; rw [c15b0]) | skip)
              by_cases c16 : t184 = 17
              · rw [if_pos c16] at H
                have c16b0 : (t184 == 17) = true := beq_iff_eq.mpr c16
                have c16b1 : (t184 != 17) = false := bne_eq_false_iff_eq.mpr c16
                clear c16
                by_cases c17 : t183 = 0
                · rw [if_pos c17] at H
                  have c17b0 : (t183 == 0) = true := beq_iff_eq.mpr c17
                  have c17b1 : (t183 != 0) = false := bne_eq_false_iff_eq.mpr c17
                  clear c17
                  have H' := Aside0.mk H
                  clear H
                  go_wp2
                  go_meet
                  case rel => exact ⟨_, H', ⟨by have := HJ6.out; first | omega | exact Nat.le_refl _⟩, ⟨by repeat (first | (with_reducible first | exact HB.out | apply below_alloc | apply pw_below_drewN | apply below_drew1) | exact HB.out)⟩⟩
                · rw [if_neg c17] at H
                  have c17b0 : (t183 == 0) = false := beq_eq_false_iff_ne.mpr c17
                  have c17b1 : (t183 != 0) = true := bne_iff_ne.mpr c17
                  obtain rfl := Option.some.inj H
                  go_wp2
                  go_ret
                  exact ⟨by first | rfl | (simp [errW_none, errW_some] <;> rfl) | (simp [*, errW_none, errW_some] <;> rfl), by repeat (first | (with_reducible first | exact HB.out | apply below_alloc | apply pw_below_drewN | apply below_drew1) | exact HB.out)⟩
              · rw [if_neg c16] at H
                have c16b0 : (t184 == 17) = false := beq_eq_false_iff_ne.mpr c16
                have c16b1 : (t184 != 17) = true := bne_iff_ne.mpr c16
                obtain rfl := Option.some.inj H
                go_wp2
                go_ret
                exact ⟨by first | rfl | (simp [errW_none, errW_some] <;> rfl) | (simp [*, errW_none, errW_some] <;> rfl), by repeat (first | (with_reducible first | exact HB.out | apply below_alloc | apply pw_below_drewN | apply below_drew1) | exact HB.out)⟩
            · rw [if_neg c15] at H
              have c15b0 : decide (a0 < a1) = false := decide_eq_false c15
              clear c15
              (first | rw [c15b0] | (simp only [i64_w, i32_w]; rw [c15b0]) | skip)
              by_cases c18 : t184 = 0
              · rw [if_pos c18] at H
                have c18b0 : (t184 == 0) = true := beq_iff_eq.mpr c18
                have c18b1 : (t184 != 0) = false := bne_eq_false_iff_eq.mpr c18
                clear c18
                by_cases c19 : t183 = (wrap64 (a0 - a1))
                · rw [if_pos c19] at H
                  have c19b0 : (t183 == (wrap64 (a0 - a1))) = true := beq_iff_eq.mpr c19
                  have c19b1 : (t183 != (wrap64 (a0 - a1))) = false := bne_eq_false_iff_eq.mpr c19
                  clear c19
                  have H' := Aside0.mk H
                  clear H
                  go_wp2
                  go_meet
                  case rel => exact ⟨_, H', ⟨by have := HJ6.out; first | omega | exact Nat.le_refl _⟩, ⟨by repeat (first | (with_reducible first | exact HB.out | apply below_alloc | apply pw_below_drewN | apply below_drew1) | exact HB.out)⟩⟩
                · rw [if_neg c19] at H
                  have c19b0 : (t183 == (wrap64 (a0 - a1))) = false := beq_eq_false_iff_ne.mpr c19
                  have c19b1 : (t183 != (wrap64 (a0 - a1))) = true := bne_iff_ne.mpr c19
                  obtain rfl := Option.some.inj H
                  go_wp2
                  go_ret
                  exact ⟨by first | rfl | (simp [errW_none, errW_some] <;> rfl) | (simp [*, errW_none, errW_some] <;> rfl), by repeat (first | (with_reducible first | exact HB.out | apply below_alloc | apply pw_below_drewN | apply below_drew1) | exact HB.out)⟩
              · rw [if_neg c18] at H
                have c18b0 : (t184 == 0) = false := beq_eq_false_iff_ne.mpr c18
                have c18b1 : (t184 != 0) = true := bne_iff_ne.mpr c18
                obtain rfl := Option.some.inj H
                go_wp2
                go_ret
                exact ⟨by first | rfl | (simp [errW_none, errW_some] <;> rfl) | (simp [*, errW_none, errW_some] <;> rfl), by repeat (first | (with_reducible first | exact HB.out | apply below_alloc | apply pw_below_drewN | apply below_drew1) | exact HB.out)⟩
          · replace c14 := Bool.eq_false_iff.mpr c14
            subst c14
            have H1 : (if t184 = 11 then (if t183 = 0 then (athanorlaw02_SafeParts.j1 kj6 a0 a1 l2 false t185 t186 t187) else (some false)) else (some false)) = some r := by rw [if_neg (show ¬ (false = true) by decide)] at H; exact H
            clear H
            have H := H1
            clear H1
            by_cases c20 : t184 = 11
            · rw [if_pos c20] at H
              have c20b0 : (t184 == 11) = true := beq_iff_eq.mpr c20
              have c20b1 : (t184 != 11) = false := bne_eq_false_iff_eq.mpr c20
              clear c20
              by_cases c21 : t183 = 0
              · rw [if_pos c21] at H
                have c21b0 : (t183 == 0) = true := beq_iff_eq.mpr c21
                have c21b1 : (t183 != 0) = false := bne_eq_false_iff_eq.mpr c21
                clear c21
                have H' := Aside0.mk H
                clear H
                go_wp2
                go_meet
                case rel => exact ⟨_, H', ⟨by have := HJ6.out; first | omega | exact Nat.le_refl _⟩, ⟨by repeat (first | (with_reducible first | exact HB.out | apply below_alloc | apply pw_below_drewN | apply below_drew1) | exact HB.out)⟩⟩
              · rw [if_neg c21] at H
                have c21b0 : (t183 == 0) = false := beq_eq_false_iff_ne.mpr c21
                have c21b1 : (t183 != 0) = true := bne_iff_ne.mpr c21
                obtain rfl := Option.some.inj H
                go_wp2
                go_ret
                exact ⟨by first | rfl | (simp [errW_none, errW_some] <;> rfl) | (simp [*, errW_none, errW_some] <;> rfl), by repeat (first | (with_reducible first | exact HB.out | apply below_alloc | apply pw_below_drewN | apply below_drew1) | exact HB.out)⟩
            · rw [if_neg c20] at H
              have c20b0 : (t184 == 11) = false := beq_eq_false_iff_ne.mpr c20
              have c20b1 : (t184 != 11) = true := bne_iff_ne.mpr c20
              obtain rfl := Option.some.inj H
              go_wp2
              go_ret
              exact ⟨by first | rfl | (simp [errW_none, errW_some] <;> rfl) | (simp [*, errW_none, errW_some] <;> rfl), by repeat (first | (with_reducible first | exact HB.out | apply below_alloc | apply pw_below_drewN | apply below_drew1) | exact HB.out)⟩
        case rest =>
          clear HC13
          try clear c1
          try clear c2
          try clear p2
          try clear c4
          try clear c4b0
          try clear c4b1
          try clear p6
          try clear c7
          try clear c8
          try clear c9
          try clear c14
          try clear c15
          try clear c15b0
          try clear c16
          try clear c16b0
          try clear c16b1
          try clear c17
          try clear c17b0
          try clear c17b1
          try clear c18
          try clear c18b0
          try clear c18b1
          try clear c19
          try clear c19b0
          try clear c19b1
          try clear c20
          try clear c20b0
          try clear c20b1
          try clear c21
          try clear c21b0
          try clear c21b1
          try clear p2
          obtain ⟨kq, HA, HJ12, HB⟩ := hcut
          cases kq with
          | zero => exact absurd HA.out (by simp [athanorlaw02_SafeParts.j1])
          | succ kj12 =>
            have H := HA.out
            clear HA
            simp only [athanorlaw02_SafeParts.j1] at H
            have HC22 := Aside0.mk H
            clear H
            go_upto_region 14 with (fail)
            go_cut [71] (fun v71 wc => ∃ (kq : Nat) (x71_21 : Bool), v71 = .bool x71_21 ∧ Aside0 (athanorlaw02_SafeParts.j2 kq a0 a1 l2 t185 t186 t187 x71_21 = some r) ∧ Aside0 (kq ≤ kj12) ∧ Aside0 (Below w.heap.size w wc))
            case first =>
              have H := HC22.out
              clear HC22
              by_cases c23 : x7_6 = true
              · subst c23
                have H1 : (athanorlaw02_SafeParts.j2 kj12 a0 a1 l2 t185 t186 t187 (decide (a1 > 0))) = some r := by rw [if_pos rfl] at H; exact H
                clear H
                have H := H1
                clear H1
                have H' := Aside0.mk H
                clear H
                go_wp2
                go_meet
                case rel => exact ⟨_, (decide (a1 > 0)), (by first | rfl | (simp; done) | (simp [*]; done)), H', ⟨by have := HJ6.out; have := HJ12.out; first | omega | exact Nat.le_refl _⟩, ⟨by repeat (first | (with_reducible first | exact HB.out | apply below_alloc | apply pw_below_drewN | apply below_drew1) | exact HB.out)⟩⟩
              · replace c23 := Bool.eq_false_iff.mpr c23
                subst c23
                have H1 : (athanorlaw02_SafeParts.j2 kj12 a0 a1 l2 t185 t186 t187 false) = some r := by rw [if_neg (show ¬ (false = true) by decide)] at H; exact H
                clear H
                have H := H1
                clear H1
                have H' := Aside0.mk H
                clear H
                go_wp2
                go_meet
                case rel => exact ⟨_, (false), (by first | rfl | (simp; done) | (simp [*]; done)), H', ⟨by have := HJ6.out; have := HJ12.out; first | omega | exact Nat.le_refl _⟩, ⟨by repeat (first | (with_reducible first | exact HB.out | apply below_alloc | apply pw_below_drewN | apply below_drew1) | exact HB.out)⟩⟩
            case rest =>
              clear HC22
              try clear c1
              try clear c2
              try clear p2
              try clear c4
              try clear c4b0
              try clear c4b1
              try clear p6
              try clear c7
              try clear c8
              try clear c9
              try clear c14
              try clear c15
              try clear c15b0
              try clear c16
              try clear c16b0
              try clear c16b1
              try clear c17
              try clear c17b0
              try clear c17b1
              try clear c18
              try clear c18b0
              try clear c18b1
              try clear c19
              try clear c19b0
              try clear c19b1
              try clear c20
              try clear c20b0
              try clear c20b1
              try clear c21
              try clear c21b0
              try clear c21b1
              try clear c23
              try clear p2
              try clear p6
              obtain ⟨kq, x71_21, rfl, HA, HJ21, HB⟩ := hcut
              cases kq with
              | zero => exact absurd HA.out (by simp [athanorlaw02_SafeParts.j2])
              | succ kj21 =>
                have H := HA.out
                clear HA
                simp only [athanorlaw02_SafeParts.j2] at H
                have HC24 := Aside0.mk H
                clear H
                go_upto_if 71 with (fail)
                go_cut [] (fun wc => ∃ (kq : Nat), Aside0 (athanorlaw02_SafeParts.j3 kq a0 l2 = some r) ∧ Aside0 (kq ≤ kj21) ∧ Aside0 (Below w.heap.size w wc))
                case first =>
                  have H := HC24.out
                  clear HC24
                  by_cases c25 : x71_21 = true
                  · subst c25
                    have H1 : (if t187 = 0 then (if (wrap64 ((wrap64 (t185 * a1)) + t186)) = a0 then (if t186 < 0 then (some false) else (if t186 ≥ a1 then (some false) else (athanorlaw02_SafeParts.j3 kj21 a0 l2))) else (some false)) else (some false)) = some r := by rw [if_pos rfl] at H; exact H
                    clear H
                    have H := H1
                    clear H1
                    by_cases c26 : t187 = 0
                    · rw [if_pos c26] at H
                      have c26b0 : (t187 == 0) = true := beq_iff_eq.mpr c26
                      have c26b1 : (t187 != 0) = false := bne_eq_false_iff_eq.mpr c26
                      clear c26
                      (first | rw [c26b0] | (simp only [i64_w, i32_w]; rw [c26b0]) | skip)
                      by_cases c27 : (wrap64 ((wrap64 (t185 * a1)) + t186)) = a0
                      · rw [if_pos c27] at H
                        have c27b0 : ((wrap64 ((wrap64 (t185 * a1)) + t186)) == a0) = true := beq_iff_eq.mpr c27
                        have c27b1 : ((wrap64 ((wrap64 (t185 * a1)) + t186)) != a0) = false := bne_eq_false_iff_eq.mpr c27
                        clear c27
                        by_cases c28 : t186 < 0
                        · rw [if_pos c28] at H
                          have c28b0 : decide (t186 < 0) = true := decide_eq_true c28
                          clear c28
                          obtain rfl := Option.some.inj H
                          go_wp2
                          go_ret
                          exact ⟨by first | rfl | (simp [errW_none, errW_some] <;> rfl) | (simp [*, errW_none, errW_some] <;> rfl), by repeat (first | (with_reducible first | exact HB.out | apply below_alloc | apply pw_below_drewN | apply below_drew1) | exact HB.out)⟩
                        · rw [if_neg c28] at H
                          have c28b0 : decide (t186 < 0) = false := decide_eq_false c28
                          clear c28
                          by_cases c29 : t186 ≥ a1
                          · rw [if_pos c29] at H
                            have c29b0 : decide (a1 ≤ t186) = true := decide_eq_true c29
                            clear c29
                            obtain rfl := Option.some.inj H
                            go_wp2
                            go_ret
                            exact ⟨by first | rfl | (simp [errW_none, errW_some] <;> rfl) | (simp [*, errW_none, errW_some] <;> rfl), by repeat (first | (with_reducible first | exact HB.out | apply below_alloc | apply pw_below_drewN | apply below_drew1) | exact HB.out)⟩
                          · rw [if_neg c29] at H
                            have c29b0 : decide (a1 ≤ t186) = false := decide_eq_false c29
                            clear c29
                            have H' := Aside0.mk H
                            clear H
                            go_wp2
                            go_meet
                            case rel => exact ⟨_, H', ⟨by have := HJ6.out; have := HJ12.out; have := HJ21.out; first | omega | exact Nat.le_refl _⟩, ⟨by repeat (first | (with_reducible first | exact HB.out | apply below_alloc | apply pw_below_drewN | apply below_drew1) | exact HB.out)⟩⟩
                      · rw [if_neg c27] at H
                        have c27b0 : ((wrap64 ((wrap64 (t185 * a1)) + t186)) == a0) = false := beq_eq_false_iff_ne.mpr c27
                        have c27b1 : ((wrap64 ((wrap64 (t185 * a1)) + t186)) != a0) = true := bne_iff_ne.mpr c27
                        obtain rfl := Option.some.inj H
                        go_wp2
                        go_ret
                        exact ⟨by first | rfl | (simp [errW_none, errW_some] <;> rfl) | (simp [*, errW_none, errW_some] <;> rfl), by repeat (first | (with_reducible first | exact HB.out | apply below_alloc | apply pw_below_drewN | apply below_drew1) | exact HB.out)⟩
                    · rw [if_neg c26] at H
                      have c26b0 : (t187 == 0) = false := beq_eq_false_iff_ne.mpr c26
                      have c26b1 : (t187 != 0) = true := bne_iff_ne.mpr c26
                      (first | rw [c26b0] | (simp only [i64_w, i32_w]; rw [c26b0]) | skip)
                      obtain rfl := Option.some.inj H
                      go_wp2
                      go_ret
                      exact ⟨by first | rfl | (simp [errW_none, errW_some] <;> rfl) | (simp [*, errW_none, errW_some] <;> rfl), by repeat (first | (with_reducible first | exact HB.out | apply below_alloc | apply pw_below_drewN | apply below_drew1) | exact HB.out)⟩
                  · replace c25 := Bool.eq_false_iff.mpr c25
                    subst c25
                    have H1 : (if t187 = 11 then (if t185 = 0 then (if t186 = 0 then (athanorlaw02_SafeParts.j3 kj21 a0 l2) else (some false)) else (some false)) else (some false)) = some r := by rw [if_neg (show ¬ (false = true) by decide)] at H; exact H
                    clear H
                    have H := H1
                    clear H1
                    by_cases c30 : t187 = 11
                    · rw [if_pos c30] at H
                      have c30b0 : (t187 == 11) = true := beq_iff_eq.mpr c30
                      have c30b1 : (t187 != 11) = false := bne_eq_false_iff_eq.mpr c30
                      clear c30
                      by_cases c31 : t185 = 0
                      · rw [if_pos c31] at H
                        have c31b0 : (t185 == 0) = true := beq_iff_eq.mpr c31
                        have c31b1 : (t185 != 0) = false := bne_eq_false_iff_eq.mpr c31
                        clear c31
                        by_cases c32 : t186 = 0
                        · rw [if_pos c32] at H
                          have c32b0 : (t186 == 0) = true := beq_iff_eq.mpr c32
                          have c32b1 : (t186 != 0) = false := bne_eq_false_iff_eq.mpr c32
                          clear c32
                          have H' := Aside0.mk H
                          clear H
                          go_wp2
                          go_meet
                          case rel => exact ⟨_, H', ⟨by have := HJ6.out; have := HJ12.out; have := HJ21.out; first | omega | exact Nat.le_refl _⟩, ⟨by repeat (first | (with_reducible first | exact HB.out | apply below_alloc | apply pw_below_drewN | apply below_drew1) | exact HB.out)⟩⟩
                        · rw [if_neg c32] at H
                          have c32b0 : (t186 == 0) = false := beq_eq_false_iff_ne.mpr c32
                          have c32b1 : (t186 != 0) = true := bne_iff_ne.mpr c32
                          obtain rfl := Option.some.inj H
                          go_wp2
                          go_ret
                          exact ⟨by first | rfl | (simp [errW_none, errW_some] <;> rfl) | (simp [*, errW_none, errW_some] <;> rfl), by repeat (first | (with_reducible first | exact HB.out | apply below_alloc | apply pw_below_drewN | apply below_drew1) | exact HB.out)⟩
                      · rw [if_neg c31] at H
                        have c31b0 : (t185 == 0) = false := beq_eq_false_iff_ne.mpr c31
                        have c31b1 : (t185 != 0) = true := bne_iff_ne.mpr c31
                        obtain rfl := Option.some.inj H
                        go_wp2
                        go_ret
                        exact ⟨by first | rfl | (simp [errW_none, errW_some] <;> rfl) | (simp [*, errW_none, errW_some] <;> rfl), by repeat (first | (with_reducible first | exact HB.out | apply below_alloc | apply pw_below_drewN | apply below_drew1) | exact HB.out)⟩
                    · rw [if_neg c30] at H
                      have c30b0 : (t187 == 11) = false := beq_eq_false_iff_ne.mpr c30
                      have c30b1 : (t187 != 11) = true := bne_iff_ne.mpr c30
                      obtain rfl := Option.some.inj H
                      go_wp2
                      go_ret
                      exact ⟨by first | rfl | (simp [errW_none, errW_some] <;> rfl) | (simp [*, errW_none, errW_some] <;> rfl), by repeat (first | (with_reducible first | exact HB.out | apply below_alloc | apply pw_below_drewN | apply below_drew1) | exact HB.out)⟩
                case rest =>
                  clear HC24
                  try clear c1
                  try clear c2
                  try clear p2
                  try clear c3
                  try clear c4
                  try clear c4b0
                  try clear c4b1
                  try clear p6
                  try clear c7
                  try clear c8
                  try clear c9
                  try clear c14
                  try clear c15
                  try clear c15b0
                  try clear c16
                  try clear c16b0
                  try clear c16b1
                  try clear c17
                  try clear c17b0
                  try clear c17b1
                  try clear c18
                  try clear c18b0
                  try clear c18b1
                  try clear c19
                  try clear c19b0
                  try clear c19b1
                  try clear c20
                  try clear c20b0
                  try clear c20b1
                  try clear c21
                  try clear c21b0
                  try clear c21b1
                  try clear c23
                  try clear c25
                  try clear c26
                  try clear c26b0
                  try clear c26b1
                  try clear c27
                  try clear c27b0
                  try clear c27b1
                  try clear c28
                  try clear c28b0
                  try clear c29
                  try clear c29b0
                  try clear c30
                  try clear c30b0
                  try clear c30b1
                  try clear c31
                  try clear c31b0
                  try clear c31b1
                  try clear c32
                  try clear c32b0
                  try clear c32b1
                  try clear p2
                  try clear p6
                  obtain ⟨kq, HA, HJ23, HB⟩ := hcut
                  cases kq with
                  | zero => exact absurd HA.out (by simp [athanorlaw02_SafeParts.j3])
                  | succ kj23 =>
                    have H := HA.out
                    clear HA
                    simp only [athanorlaw02_SafeParts.j3] at H
                    have H' := Aside0.mk H
                    clear H
                    go_wp2
                    go_loopg [13, 104] kj23 (fun kq v13 v104 w' => ∃ (x13_5 : Int) (x104_5 : Int), v13 = .int .i64 x13_5 ∧ v104 = .int .i64 x104_5 ∧ Aside0 (athanorlaw02_SafeParts.l0 kq a0 l2 x13_5 l2 (l2.length : Int) x104_5 = some r) ∧ Aside0 (kq ≤ kj23) ∧ Aside0 (Below w.heap.size w w'))
                    case atStart => exact ⟨(0), (0), (by first | rfl | (simp; done) | (simp [*]; done)), (by first | rfl | (simp; done) | (simp [*]; done)), H', ⟨Nat.le_refl _⟩, ⟨by repeat (first | (with_reducible first | exact HB.out | apply below_alloc | apply pw_below_drewN | apply below_drew1) | exact HB.out)⟩⟩
                    case round =>
                      clear H'
                      try clear c1
                      try clear c2
                      try clear p2
                      try clear c3
                      try clear c4
                      try clear c4b0
                      try clear c4b1
                      try clear p6
                      try clear c7
                      try clear c8
                      try clear c9
                      try clear c14
                      try clear c15
                      try clear c15b0
                      try clear c16
                      try clear c16b0
                      try clear c16b1
                      try clear c17
                      try clear c17b0
                      try clear c17b1
                      try clear c18
                      try clear c18b0
                      try clear c18b1
                      try clear c19
                      try clear c19b0
                      try clear c19b1
                      try clear c20
                      try clear c20b0
                      try clear c20b1
                      try clear c21
                      try clear c21b0
                      try clear c21b1
                      try clear c23
                      try clear c25
                      try clear c26
                      try clear c26b0
                      try clear c26b1
                      try clear c27
                      try clear c27b0
                      try clear c27b1
                      try clear c28
                      try clear c28b0
                      try clear c29
                      try clear c29b0
                      try clear c30
                      try clear c30b0
                      try clear c30b1
                      try clear c31
                      try clear c31b0
                      try clear c31b1
                      try clear c32
                      try clear c32b0
                      try clear c32b1
                      try clear p2
                      try clear p6
                      obtain ⟨x13_5, x104_5, rfl, rfl, HA, HK5, HB⟩ := hrel
                      cases gk with
                      | zero => exact absurd HA.out (by simp [athanorlaw02_SafeParts.l0])
                      | succ k5 =>
                        have H := HA.out
                        clear HA
                        simp only [athanorlaw02_SafeParts.l0] at H
                        by_cases c33 : x104_5 < (l2.length : Int)
                        · rw [if_pos c33] at H
                          have c33b0 : decide (x104_5 < (l2.length : Int)) = true := decide_eq_true c33
                          clear c33
                          by_cases c34 : 0 ≤ x104_5
                          · rw [if_pos c34] at H
                            have c34b0 : decide (0 ≤ x104_5) = true := decide_eq_true c34
                            clear c34
                            by_cases c35 : x104_5 < (l2.length : Int)
                            · rw [if_pos c35] at H
                              have c35b0 : decide (x104_5 < (l2.length : Int)) = true := decide_eq_true c35
                              clear c35
                              obtain ⟨ji36, hji36⟩ : ∃ j_ : Int, (mx x13_5 (rd l2 x104_5)) = j_ := ⟨_, rfl⟩
                              replace H : (athanorlaw02_SafeParts.l0 k5 a0 l2 ji36 l2 (l2.length : Int) (wrap64 (x104_5 + 1))) = some r := by first | (rw [hji36] at H; exact H) | (simp only [hji36] at H ⊢; exact H)
                              have hji36_ : (if x13_5 < (rd l2 x104_5) then (rd l2 x104_5) else x13_5) = ji36 := hji36
                              have H' := Aside0.mk H
                              clear H
                              have p188 : 0 ≤ (x104_5 : Int) := of_decide_eq_true (by first | (with_reducible assumption) | assumption)
                              have q188 : x104_5 < (l2.length : Int) := of_decide_eq_true (by first | (with_reducible assumption) | assumption)
                              obtain ⟨ad188, e188, hx188_0⟩ := Kd.at_int HR2.out x104_5 p188 q188
                              cases e188
                              replace hx188_0 := (HB.out.cell (World.block_lt_of_cell? w _ hx188_0)).trans hx188_0
                              replace p188 := eq_true p188
                              replace q188 := eq_true q188
                              go_wp2
                              go_roundg k5
                              case measure => have := HJ6.out; have := HJ12.out; have := HJ21.out; have := HJ23.out; have := HK5.out; omega
                              case rel => exact ⟨(ji36), (wrap64 (x104_5 + 1)), (by first | rfl | (simp; done) | (simp only [← hji36] <;> (first | rfl | simp)) | (simp [*]; done)), (by first | rfl | (simp; done) | (simp [*]; done)), H', ⟨by have := HJ6.out; have := HJ12.out; have := HJ21.out; have := HJ23.out; have := HK5.out; omega⟩, ⟨by repeat (first | (with_reducible first | exact HB.out | apply below_alloc | apply pw_below_drewN | apply below_drew1) | exact HB.out)⟩⟩
                            · rw [if_neg c35] at H
                              exact absurd H (by simp)
                          · rw [if_neg c34] at H
                            exact absurd H (by simp)
                        · rw [if_neg c33] at H
                          have c33b0 : decide (x104_5 < (l2.length : Int)) = false := decide_eq_false c33
                          clear c33
                          replace H := Option.bind_eq_some_iff.mp H
                          obtain ⟨t189, A370, H⟩ := H
                          replace H : (if t189 = x13_5 then ((safe_Right.f a0).bind fun t190 => ((athanorref02_Right.f a0).bind fun t191 => (if (t190 == t191) = true then ((athanorlaw02_awake.f k5).bind fun t192 => (some t192)) else (some false)))) else (some false)) = some r := H
                          have A37 := Aside0.mk A370
                          clear A370
                          by_cases c38 : t189 = x13_5
                          · rw [if_pos c38] at H
                            have c38b0 : (t189 == x13_5) = true := beq_iff_eq.mpr c38
                            have c38b1 : (t189 != x13_5) = false := bne_eq_false_iff_eq.mpr c38
                            clear c38
                            replace H := Option.bind_eq_some_iff.mp H
                            obtain ⟨t190, A390, H⟩ := H
                            replace H : ((athanorref02_Right.f a0).bind fun t191 => (if (t190 == t191) = true then ((athanorlaw02_awake.f k5).bind fun t192 => (some t192)) else (some false))) = some r := H
                            have A39 := Aside0.mk A390
                            clear A390
                            replace H := Option.bind_eq_some_iff.mp H
                            obtain ⟨t191, A400, H⟩ := H
                            replace H : (if (t190 == t191) = true then ((athanorlaw02_awake.f k5).bind fun t192 => (some t192)) else (some false)) = some r := H
                            have A40 := Aside0.mk A400
                            clear A400
                            by_cases c41 : (t190 == t191) = true
                            · rw [if_pos c41] at H
                              have c41b0 : (t190 == t191) = true := c41
                              (try (have c41b1 : decide (t190 = t191) = true := by simpa using c41))
                              (try (have c41b2 : (t190 == t191) = true := by simpa using c41))
                              clear c41
                              replace H := Option.bind_eq_some_iff.mp H
                              obtain ⟨t192, A420, H⟩ := H
                              replace H : (some t192) = some r := H
                              have A42 := Aside0.mk A420
                              clear A420
                              obtain rfl := Option.some.inj H
                              go_wp2_with (first | ((with_reducible refine gate_callee (f := 17) rfl ?_); refine goesL_ (some 113) rfl rfl Try.func17 (by kernel_rfl) rfl #[.slice A2 l2.length c2] rfl (by (try simp only [List.map_toArray, List.map_cons, List.map_nil]); first | done | rfl | (simp only [List.length_drop, List.length_take]; rfl)) ?_; (with_reducible refine (safe_Max.calls k5 _ _ l2 t189 _ ?side1 ?side2 A37.out).mono ?_); (case side1 => repeat (first | exact (Kd.C_below HR2.out HB.out) | (with_reducible refine Kd.C_alloc ?_ _) | (with_reducible refine Kd.C_drewN ?_ _) | (with_reducible refine Kd.C_drew ?_))); (case side2 => exact HC2.out); rintro e w43 ⟨rfl, hb⟩; refine ⟨_, rfl, ?_⟩; have n0_ := Aside0.mk (below_step (by repeat (first | (with_reducible first | exact HB.out | apply below_alloc | apply pw_below_drewN | apply below_drew1) | exact HB.out)) hb); clear HB; have HB := n0_; clear n0_; (try clear hb); (try clear hb2); (try clear hk); (try clear hi)) | (go_at_call 18; (with_reducible refine (safe_Right.calls a0 t190 _ A39.out).mono ?_); rintro e w' ⟨rfl, ⟨nd, rfl⟩⟩) | (go_at_call 14; (with_reducible refine (athanorref02_Right.calls a0 t191 _ A40.out).mono ?_); rintro e w' ⟨rfl, ⟨nd, rfl⟩⟩) | (go_at_call 8; (with_reducible refine (athanorlaw02_awake.calls k5  t192 _ A42.out).mono ?_); rintro e w44 ⟨rfl, hb⟩; have n0_ := Aside0.mk (below_step (by repeat (first | (with_reducible first | exact HB.out | apply below_alloc | apply pw_below_drewN | apply below_drew1) | exact HB.out)) hb); clear HB; have HB := n0_; clear n0_; (try clear hb); (try clear hb2); (try clear hk); (try clear hi)))
                              go_ret
                              exact ⟨by first | rfl | (simp [errW_none, errW_some] <;> rfl) | (simp [*, errW_none, errW_some] <;> rfl), by repeat (first | (with_reducible first | exact HB.out | apply below_alloc | apply pw_below_drewN | apply below_drew1) | exact HB.out)⟩
                            · rw [if_neg c41] at H
                              have c41b0 : (t190 == t191) = false := by simpa using c41
                              (try (have c41b1 : decide (t190 = t191) = false := by simpa using c41))
                              (try (have c41b2 : (t190 == t191) = false := by simpa using c41))
                              (try (have c41b3 : ¬ (t190 = t191) := by simpa using c41))
                              clear c41
                              obtain rfl := Option.some.inj H
                              go_wp2_with (first | ((with_reducible refine gate_callee (f := 17) rfl ?_); refine goesL_ (some 113) rfl rfl Try.func17 (by kernel_rfl) rfl #[.slice A2 l2.length c2] rfl (by (try simp only [List.map_toArray, List.map_cons, List.map_nil]); first | done | rfl | (simp only [List.length_drop, List.length_take]; rfl)) ?_; (with_reducible refine (safe_Max.calls k5 _ _ l2 t189 _ ?side1 ?side2 A37.out).mono ?_); (case side1 => repeat (first | exact (Kd.C_below HR2.out HB.out) | (with_reducible refine Kd.C_alloc ?_ _) | (with_reducible refine Kd.C_drewN ?_ _) | (with_reducible refine Kd.C_drew ?_))); (case side2 => exact HC2.out); rintro e w45 ⟨rfl, hb⟩; refine ⟨_, rfl, ?_⟩; have n0_ := Aside0.mk (below_step (by repeat (first | (with_reducible first | exact HB.out | apply below_alloc | apply pw_below_drewN | apply below_drew1) | exact HB.out)) hb); clear HB; have HB := n0_; clear n0_; (try clear hb); (try clear hb2); (try clear hk); (try clear hi)) | (go_at_call 18; (with_reducible refine (safe_Right.calls a0 t190 _ A39.out).mono ?_); rintro e w' ⟨rfl, ⟨nd, rfl⟩⟩) | (go_at_call 14; (with_reducible refine (athanorref02_Right.calls a0 t191 _ A40.out).mono ?_); rintro e w' ⟨rfl, ⟨nd, rfl⟩⟩))
                              go_ret
                              exact ⟨by first | rfl | (simp [errW_none, errW_some] <;> rfl) | (simp [*, errW_none, errW_some] <;> rfl), by repeat (first | (with_reducible first | exact HB.out | apply below_alloc | apply pw_below_drewN | apply below_drew1) | exact HB.out)⟩
                          · rw [if_neg c38] at H
                            have c38b0 : (t189 == x13_5) = false := beq_eq_false_iff_ne.mpr c38
                            have c38b1 : (t189 != x13_5) = true := bne_iff_ne.mpr c38
                            obtain rfl := Option.some.inj H
                            go_wp2_with (first | ((with_reducible refine gate_callee (f := 17) rfl ?_); refine goesL_ (some 113) rfl rfl Try.func17 (by kernel_rfl) rfl #[.slice A2 l2.length c2] rfl (by (try simp only [List.map_toArray, List.map_cons, List.map_nil]); first | done | rfl | (simp only [List.length_drop, List.length_take]; rfl)) ?_; (with_reducible refine (safe_Max.calls k5 _ _ l2 t189 _ ?side1 ?side2 A37.out).mono ?_); (case side1 => repeat (first | exact (Kd.C_below HR2.out HB.out) | (with_reducible refine Kd.C_alloc ?_ _) | (with_reducible refine Kd.C_drewN ?_ _) | (with_reducible refine Kd.C_drew ?_))); (case side2 => exact HC2.out); rintro e w46 ⟨rfl, hb⟩; refine ⟨_, rfl, ?_⟩; have n0_ := Aside0.mk (below_step (by repeat (first | (with_reducible first | exact HB.out | apply below_alloc | apply pw_below_drewN | apply below_drew1) | exact HB.out)) hb); clear HB; have HB := n0_; clear n0_; (try clear hb); (try clear hb2); (try clear hk); (try clear hi)))
                            go_ret
                            exact ⟨by first | rfl | (simp [errW_none, errW_some] <;> rfl) | (simp [*, errW_none, errW_some] <;> rfl), by repeat (first | (with_reducible first | exact HB.out | apply below_alloc | apply pw_below_drewN | apply below_drew1) | exact HB.out)⟩

/-- THE ONE PURE STATEMENT of athanorlaw02_SafeParts: yours. -/
def athanorlaw02_SafeParts.Pure : Prop := ∀ (a0 : Int) (a1 : Int) (l2 : List Int), (Lit.int .i64 a0).wf = true → (Lit.int .i64 a1).wf = true → l2.length ≤ maxLen → l2.length * 8 ≤ 140737488351232 → (∀ x ∈ l2, (Lit.int .i64 x).wf = true) → ∃ k, athanorlaw02_SafeParts.f k a0 a1 l2 = some true
theorem athanorlaw02_SafeParts.walk (P : athanorlaw02_SafeParts.Pure) (a0 : Int) (a1 : Int) (a2 : Option Addr) (len2 cap2 : Nat) (z2 : List Int) (w : World) (w0 : (Lit.int .i64 a0).wf = true) (w1 : (Lit.int .i64 a1).wf = true) (w2 : (a2 = none ∧ len2 = 0 ∧ cap2 = 0 ∧ z2 = []) ∨ ∃ x, a2 = some x ∧ len2 ≤ cap2 ∧ cap2 ≤ maxLen ∧ z2.length = cap2 ∧ (∀ i, i < z2.length → w.cell? (x.add i) = some (.int .i64 (z2.getD i 0))) ∧ ∀ n ∈ z2, (Lit.int .i64 n).wf = true) (y2 : len2 * 8 ≤ 140737488351232) :
    Calls Try.prog 7 #[.int .i64 a0, .int .i64 a1, .slice a2 len2 cap2] w fun e w' => e = .returned (.bool true) ∧ Below w.heap.size w w' := by
  obtain ⟨l2, rfl, hr2, hm2, hw2, hc2⟩ := ReadsInt.ofRowC w2
  obtain ⟨k, h⟩ := P a0 a1 l2 w0 w1 hm2 y2 hw2
  refine (athanorlaw02_SafeParts.calls k a0 a1 _ _ l2 true w (Kd.C_of_reads (d := (0 : Int)) (h1 := fun _ => rfl) hr2) hc2 h).mono ?_
  rintro e w' ⟨rfl, hd⟩
  exact ⟨rfl, hd⟩

end Go.Proofs.Yteaflkbepnfkdaa.PSafe
