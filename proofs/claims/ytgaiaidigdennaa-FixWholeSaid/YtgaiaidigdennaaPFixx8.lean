-- printed by wip/tools/xp.py of this project (not trusted: Lean checks it)
import Derived.Test.YtgaiaidigdennaaPFixx0
import Derived.Test.YtgaiaidigdennaaPFixx1
import Derived.Test.YtgaiaidigdennaaPFixx4
import Derived.Test.YtgaiaidigdennaaPFixx6
import Derived.Test.YtgaiaidigdennaaPFixx7
namespace Go.Proofs.Ytgaiaidigdennaa.PFix
open Go.RowKit Go.Proofs.YtgaiaidigdennaaW.PrintWords Go.Proofs.YtgaiaidigdennaaW.PrintLast Go.Proofs.YtgaiaidigdennaaW.PrintMore
attribute [local go_sem] max2_int min2_int max_two min_two max_three min_three max_four min_four   -- for this text's walks alone
set_option linter.unusedVariables false
set_option linter.unusedSimpArgs false

/-! ### athanorlaw01_FixSums: function 7 -/
mutual
def athanorlaw01_FixSums.j0 : Nat → Int → Int → Bool → Option (Bool)
  | 0, _, _, _ => none
  | k + 1, x0, x1, x28 => if x28 = true then (some false) else ((fix_F_Sub.f k x0 x1).bind fun t224 => (if x1 = (-9223372036854775808) then (athanorlaw01_FixSums.j1 k x0 x1 t224 9223372036854775807 (decide (x0 < 0))) else (athanorlaw01_FixSums.j1 k x0 x1 t224 9223372036854775807 false)))
def athanorlaw01_FixSums.j1 : Nat → Int → Int → Int → Int → Bool → Option (Bool)
  | 0, _, _, _, _, _ => none
  | k + 1, x0, x1, x6, x7, x32 => if x32 = true then (if x6 = (wrap64 ((wrap64 (x0 + 4611686018427387904)) + 4611686018427387904)) then ((athanorlaw01_awake.f k).bind fun t225 => (some t225)) else (some false)) else (if x1 = (-9223372036854775808) then (if x6 = x7 then ((athanorlaw01_awake.f k).bind fun t226 => (some t226)) else (some false)) else ((athanorref01_Add.f k x0 (wrap64 (-x1))).bind fun t227 => (if x6 = t227 then ((athanorlaw01_awake.f k).bind fun t228 => (some t228)) else (some false))))
end
def athanorlaw01_FixSums.f (k : Nat) (a0 : Int) (a1 : Int) : Option (Bool) := (fix_F_Add.f k a0 a1).bind fun t220 => ((athanorref01_Add.f k a0 a1).bind fun t221 => (if t220 = t221 then ((fix_F_Add.f k a1 a0).bind fun t222 => (if t222 = t220 then ((fix_F_Sub.f k a0 a0).bind fun t223 => (athanorlaw01_FixSums.j0 k a0 a1 (t223 != 0))) else (athanorlaw01_FixSums.j0 k a0 a1 true))) else (athanorlaw01_FixSums.j0 k a0 a1 true)))
theorem athanorlaw01_FixSums.mono_l : ∀ k, (∀ y0 y1 y2, LeO (athanorlaw01_FixSums.j0 k y0 y1 y2) (athanorlaw01_FixSums.j0 (k + 1) y0 y1 y2)) ∧ (∀ y0 y1 y2 y3 y4, LeO (athanorlaw01_FixSums.j1 k y0 y1 y2 y3 y4) (athanorlaw01_FixSums.j1 (k + 1) y0 y1 y2 y3 y4))
  | 0 => ⟨fun _ _ _ r h => by simp [athanorlaw01_FixSums.j0] at h, fun _ _ _ _ _ r h => by simp [athanorlaw01_FixSums.j1] at h⟩
  | k + 1 => by
    obtain ⟨ih0, ih1⟩ := athanorlaw01_FixSums.mono_l k
    refine ⟨?_, ?_⟩
    · intro y0 y1 y2
      unfold athanorlaw01_FixSums.j0
      repeat' first
      | (with_reducible exact ih0 _ _ _)
      | (with_reducible exact ih1 _ _ _ _ _)
      | (with_reducible exact athanorlaw01_awake.mono _)
      | (with_reducible exact athanorref01_Add.mono _ _ _)
      | (with_reducible exact fix_F_Add.mono _ _ _)
      | (with_reducible exact fix_F_Sub.mono _ _ _)
      | (with_reducible exact LeO.refl _)
      | (with_reducible exact LeO.none _)
      | (with_reducible refine LeO.ite ?_ ?_)
      | (with_reducible refine LeO.bind ?_ (fun _ => ?_))
      | exact ih0 _ _ _
      | exact ih1 _ _ _ _ _
      | exact athanorlaw01_awake.mono _
      | exact athanorref01_Add.mono _ _ _
      | exact fix_F_Add.mono _ _ _
      | exact fix_F_Sub.mono _ _ _
      | exact LeO.none _
      | refine LeO.ite ?_ ?_
      | refine LeO.bind ?_ (fun _ => ?_)
    · intro y0 y1 y2 y3 y4
      unfold athanorlaw01_FixSums.j1
      repeat' first
      | (with_reducible exact ih0 _ _ _)
      | (with_reducible exact ih1 _ _ _ _ _)
      | (with_reducible exact athanorlaw01_awake.mono _)
      | (with_reducible exact athanorref01_Add.mono _ _ _)
      | (with_reducible exact fix_F_Add.mono _ _ _)
      | (with_reducible exact fix_F_Sub.mono _ _ _)
      | (with_reducible exact LeO.refl _)
      | (with_reducible exact LeO.none _)
      | (with_reducible refine LeO.ite ?_ ?_)
      | (with_reducible refine LeO.bind ?_ (fun _ => ?_))
      | exact ih0 _ _ _
      | exact ih1 _ _ _ _ _
      | exact athanorlaw01_awake.mono _
      | exact athanorref01_Add.mono _ _ _
      | exact fix_F_Add.mono _ _ _
      | exact fix_F_Sub.mono _ _ _
      | exact LeO.none _
      | refine LeO.ite ?_ ?_
      | refine LeO.bind ?_ (fun _ => ?_)
theorem athanorlaw01_FixSums.mono : ∀ a0 a1 k, LeO (athanorlaw01_FixSums.f k a0 a1) (athanorlaw01_FixSums.f (k + 1) a0 a1) := by
  intro a0 a1 k
  obtain ⟨ih0, ih1⟩ := athanorlaw01_FixSums.mono_l k
  unfold athanorlaw01_FixSums.f
  repeat' first
      | (with_reducible exact ih0 _ _ _)
      | (with_reducible exact ih1 _ _ _ _ _)
      | (with_reducible exact athanorlaw01_awake.mono _)
      | (with_reducible exact athanorref01_Add.mono _ _ _)
      | (with_reducible exact fix_F_Add.mono _ _ _)
      | (with_reducible exact fix_F_Sub.mono _ _ _)
      | (with_reducible exact LeO.refl _)
      | (with_reducible exact LeO.none _)
      | (with_reducible refine LeO.ite ?_ ?_)
      | (with_reducible refine LeO.bind ?_ (fun _ => ?_))
      | exact ih0 _ _ _
      | exact ih1 _ _ _ _ _
      | exact athanorlaw01_awake.mono _
      | exact athanorref01_Add.mono _ _ _
      | exact fix_F_Add.mono _ _ _
      | exact fix_F_Sub.mono _ _ _
      | exact LeO.none _
      | refine LeO.ite ?_ ?_
      | refine LeO.bind ?_ (fun _ => ?_)
set_option maxHeartbeats 8000000 in
set_option maxRecDepth 100000 in
theorem athanorlaw01_FixSums.calls (k : Nat) (a0 : Int) (a1 : Int) (r : Bool) (w : World) (h : athanorlaw01_FixSums.f k a0 a1 = some r) :
    Calls Try.prog 7 #[.int .i64 a0, .int .i64 a1] w fun e w' => e = .returned (.bool r) ∧ Below w.heap.size w w' := by
  have HB := Aside0.mk (Below.refl w.heap.size w)
  have H : ((fix_F_Add.f k a0 a1).bind fun t220 => ((athanorref01_Add.f k a0 a1).bind fun t221 => (if t220 = t221 then ((fix_F_Add.f k a1 a0).bind fun t222 => (if t222 = t220 then ((fix_F_Sub.f k a0 a0).bind fun t223 => (athanorlaw01_FixSums.j0 k a0 a1 (t223 != 0))) else (athanorlaw01_FixSums.j0 k a0 a1 true))) else (athanorlaw01_FixSums.j0 k a0 a1 true)))) = some r := h
  clear h
  replace H := Option.bind_eq_some_iff.mp H
  obtain ⟨t220, A30, H⟩ := H
  replace H : ((athanorref01_Add.f k a0 a1).bind fun t221 => (if t220 = t221 then ((fix_F_Add.f k a1 a0).bind fun t222 => (if t222 = t220 then ((fix_F_Sub.f k a0 a0).bind fun t223 => (athanorlaw01_FixSums.j0 k a0 a1 (t223 != 0))) else (athanorlaw01_FixSums.j0 k a0 a1 true))) else (athanorlaw01_FixSums.j0 k a0 a1 true))) = some r := H
  have A3 := Aside0.mk A30
  clear A30
  have HC4 := Aside0.mk H
  clear H
  go_enter Try.func7, Try.ntmps7
  go_upto_region 2 with (first | ((with_reducible refine gate_callee (f := 24) rfl ?_); refine goesL_ (some 10) rfl rfl Try.func24 (by kernel_rfl) rfl #[.int .i64 a0, .int .i64 a1] rfl (by (try simp only [List.map_toArray, List.map_cons, List.map_nil]); first | done | rfl | (simp only [List.length_drop, List.length_take]; rfl)) ?_; (with_reducible refine (fix_F_Add.calls k a0 a1 t220 _ A3.out).mono ?_); rintro e w' ⟨rfl, ⟨nd, rfl⟩⟩; refine ⟨_, rfl, ?_⟩))
  (try simp only [Act.put, List.setIfInBounds_toArray, List.set_cons_zero, List.set_cons_succ])
  go_cut [28] (fun v28 wc => ∃ (kq : Nat) (x28_3 : Bool), v28 = .bool x28_3 ∧ Aside0 (athanorlaw01_FixSums.j0 kq a0 a1 x28_3 = some r) ∧ Aside0 (kq ≤ k) ∧ Aside0 (Below w.heap.size w wc))
  case first =>
    have H := HC4.out
    clear HC4
    replace H := Option.bind_eq_some_iff.mp H
    obtain ⟨t221, A50, H⟩ := H
    replace H : (if t220 = t221 then ((fix_F_Add.f k a1 a0).bind fun t222 => (if t222 = t220 then ((fix_F_Sub.f k a0 a0).bind fun t223 => (athanorlaw01_FixSums.j0 k a0 a1 (t223 != 0))) else (athanorlaw01_FixSums.j0 k a0 a1 true))) else (athanorlaw01_FixSums.j0 k a0 a1 true)) = some r := H
    have A5 := Aside0.mk A50
    clear A50
    by_cases c6 : t220 = t221
    · rw [if_pos c6] at H
      have c6b0 : (t220 == t221) = true := beq_iff_eq.mpr c6
      have c6b1 : (t220 != t221) = false := bne_eq_false_iff_eq.mpr c6
      clear c6
      (first | rw [c6b0] | (simp only [i64_w, i32_w]; rw [c6b0]) | skip)
      replace H := Option.bind_eq_some_iff.mp H
      obtain ⟨t222, A70, H⟩ := H
      replace H : (if t222 = t220 then ((fix_F_Sub.f k a0 a0).bind fun t223 => (athanorlaw01_FixSums.j0 k a0 a1 (t223 != 0))) else (athanorlaw01_FixSums.j0 k a0 a1 true)) = some r := H
      have A7 := Aside0.mk A70
      clear A70
      by_cases c8 : t222 = t220
      · rw [if_pos c8] at H
        have c8b0 : (t222 == t220) = true := beq_iff_eq.mpr c8
        have c8b1 : (t222 != t220) = false := bne_eq_false_iff_eq.mpr c8
        clear c8
        replace H := Option.bind_eq_some_iff.mp H
        obtain ⟨t223, A90, H⟩ := H
        replace H : (athanorlaw01_FixSums.j0 k a0 a1 (t223 != 0)) = some r := H
        have A9 := Aside0.mk A90
        clear A90
        have H' := Aside0.mk H
        clear H
        go_wp2_with (first | ((with_reducible refine gate_callee (f := 21) rfl ?_); refine goesL_ (some 14) rfl rfl Try.func21 (by kernel_rfl) rfl #[.int .i64 a0, .int .i64 a1] rfl (by (try simp only [List.map_toArray, List.map_cons, List.map_nil]); first | done | rfl | (simp only [List.length_drop, List.length_take]; rfl)) ?_; (with_reducible refine (athanorref01_Add.calls k a0 a1 t221 _ A5.out).mono ?_); rintro e w' ⟨rfl, ⟨nd, rfl⟩⟩; refine ⟨_, rfl, ?_⟩) | (go_at_call 24; (with_reducible refine (fix_F_Add.calls k a1 a0 t222 _ A7.out).mono ?_); rintro e w' ⟨rfl, ⟨nd, rfl⟩⟩) | (go_at_call 25; (with_reducible refine (fix_F_Sub.calls k a0 a0 t223 _ A9.out).mono ?_); rintro e w' ⟨rfl, ⟨nd, rfl⟩⟩))
        go_meet
        case rel => exact ⟨_, ((t223 != 0)), (by first | rfl | (simp; done) | (simp [*]; done)), H', ⟨by first | omega | exact Nat.le_refl _⟩, ⟨by repeat (first | (with_reducible first | exact HB.out | apply below_alloc | apply pw_below_drewN | apply below_drew1) | exact HB.out)⟩⟩
      · rw [if_neg c8] at H
        have c8b0 : (t222 == t220) = false := beq_eq_false_iff_ne.mpr c8
        have c8b1 : (t222 != t220) = true := bne_iff_ne.mpr c8
        have H' := Aside0.mk H
        clear H
        go_wp2_with (first | ((with_reducible refine gate_callee (f := 21) rfl ?_); refine goesL_ (some 14) rfl rfl Try.func21 (by kernel_rfl) rfl #[.int .i64 a0, .int .i64 a1] rfl (by (try simp only [List.map_toArray, List.map_cons, List.map_nil]); first | done | rfl | (simp only [List.length_drop, List.length_take]; rfl)) ?_; (with_reducible refine (athanorref01_Add.calls k a0 a1 t221 _ A5.out).mono ?_); rintro e w' ⟨rfl, ⟨nd, rfl⟩⟩; refine ⟨_, rfl, ?_⟩) | (go_at_call 24; (with_reducible refine (fix_F_Add.calls k a1 a0 t222 _ A7.out).mono ?_); rintro e w' ⟨rfl, ⟨nd, rfl⟩⟩))
        go_meet
        case rel => exact ⟨_, (true), (by first | rfl | (simp; done) | (simp [*]; done)), H', ⟨by first | omega | exact Nat.le_refl _⟩, ⟨by repeat (first | (with_reducible first | exact HB.out | apply below_alloc | apply pw_below_drewN | apply below_drew1) | exact HB.out)⟩⟩
    · rw [if_neg c6] at H
      have c6b0 : (t220 == t221) = false := beq_eq_false_iff_ne.mpr c6
      have c6b1 : (t220 != t221) = true := bne_iff_ne.mpr c6
      (first | rw [c6b0] | (simp only [i64_w, i32_w]; rw [c6b0]) | skip)
      have H' := Aside0.mk H
      clear H
      go_wp2_with (first | ((with_reducible refine gate_callee (f := 21) rfl ?_); refine goesL_ (some 14) rfl rfl Try.func21 (by kernel_rfl) rfl #[.int .i64 a0, .int .i64 a1] rfl (by (try simp only [List.map_toArray, List.map_cons, List.map_nil]); first | done | rfl | (simp only [List.length_drop, List.length_take]; rfl)) ?_; (with_reducible refine (athanorref01_Add.calls k a0 a1 t221 _ A5.out).mono ?_); rintro e w' ⟨rfl, ⟨nd, rfl⟩⟩; refine ⟨_, rfl, ?_⟩))
      go_meet
      case rel => exact ⟨_, (true), (by first | rfl | (simp; done) | (simp [*]; done)), H', ⟨by first | omega | exact Nat.le_refl _⟩, ⟨by repeat (first | (with_reducible first | exact HB.out | apply below_alloc | apply pw_below_drewN | apply below_drew1) | exact HB.out)⟩⟩
  case rest =>
    clear HC4
    try clear c2
    try clear p2
    try clear c6
    try clear c6b0
    try clear c6b1
    try clear c7
    try clear c8
    try clear c8b0
    try clear c8b1
    obtain ⟨kq, x28_3, rfl, HA, HJ3, HB⟩ := hcut
    cases kq with
    | zero => exact absurd HA.out (by simp [athanorlaw01_FixSums.j0])
    | succ kj3 =>
      have H := HA.out
      clear HA
      simp only [athanorlaw01_FixSums.j0] at H
      by_cases c10 : x28_3 = true
      · subst c10
        have H1 : (some false) = some r := by rw [if_pos rfl] at H; exact H
        clear H
        have H := H1
        clear H1
        obtain rfl := Option.some.inj H
        go_wp2
        go_ret
        exact ⟨by first | rfl | (simp [errW_none, errW_some] <;> rfl) | (simp [*, errW_none, errW_some] <;> rfl), by repeat (first | (with_reducible first | exact HB.out | apply below_alloc | apply pw_below_drewN | apply below_drew1) | exact HB.out)⟩
      · replace c10 := Bool.eq_false_iff.mpr c10
        subst c10
        have H1 : ((fix_F_Sub.f kj3 a0 a1).bind fun t224 => (if a1 = (-9223372036854775808) then (athanorlaw01_FixSums.j1 kj3 a0 a1 t224 9223372036854775807 (decide (a0 < 0))) else (athanorlaw01_FixSums.j1 kj3 a0 a1 t224 9223372036854775807 false))) = some r := by rw [if_neg (show ¬ (false = true) by decide)] at H; exact H
        clear H
        have H := H1
        clear H1
        replace H := Option.bind_eq_some_iff.mp H
        obtain ⟨t224, A110, H⟩ := H
        replace H : (if a1 = (-9223372036854775808) then (athanorlaw01_FixSums.j1 kj3 a0 a1 t224 9223372036854775807 (decide (a0 < 0))) else (athanorlaw01_FixSums.j1 kj3 a0 a1 t224 9223372036854775807 false)) = some r := H
        have A11 := Aside0.mk A110
        clear A110
        have HC12 := Aside0.mk H
        clear H
        go_upto_region 6 with (first | ((with_reducible refine gate_callee (f := 25) rfl ?_); refine goesL_ (some 31) rfl rfl Try.func25 (by kernel_rfl) rfl #[.int .i64 a0, .int .i64 a1] rfl (by (try simp only [List.map_toArray, List.map_cons, List.map_nil]); first | done | rfl | (simp only [List.length_drop, List.length_take]; rfl)) ?_; (with_reducible refine (fix_F_Sub.calls kj3 a0 a1 t224 _ A11.out).mono ?_); rintro e w' ⟨rfl, ⟨nd, rfl⟩⟩; refine ⟨_, rfl, ?_⟩))
        (try simp only [Act.put, List.setIfInBounds_toArray, List.set_cons_zero, List.set_cons_succ])
        go_cut [32] (fun v32 wc => ∃ (kq : Nat) (x32_11 : Bool), v32 = .bool x32_11 ∧ Aside0 (athanorlaw01_FixSums.j1 kq a0 a1 t224 9223372036854775807 x32_11 = some r) ∧ Aside0 (kq ≤ kj3) ∧ Aside0 (Below w.heap.size w wc))
        case first =>
          have H := HC12.out
          clear HC12
          by_cases c13 : a1 = (-9223372036854775808)
          · rw [if_pos c13] at H
            have c13b0 : (a1 == (-9223372036854775808)) = true := beq_iff_eq.mpr c13
            have c13b1 : (a1 != (-9223372036854775808)) = false := bne_eq_false_iff_eq.mpr c13
            clear c13
            (first | rw [c13b0] | (simp only [i64_w, i32_w]; rw [c13b0]) | skip)
            have H' := Aside0.mk H
            clear H
            go_wp2
            go_meet
            case rel => exact ⟨_, (decide (a0 < 0)), (by first | rfl | (simp; done) | (simp [*]; done)), H', ⟨by have := HJ3.out; first | omega | exact Nat.le_refl _⟩, ⟨by repeat (first | (with_reducible first | exact HB.out | apply below_alloc | apply pw_below_drewN | apply below_drew1) | exact HB.out)⟩⟩
          · rw [if_neg c13] at H
            have c13b0 : (a1 == (-9223372036854775808)) = false := beq_eq_false_iff_ne.mpr c13
            have c13b1 : (a1 != (-9223372036854775808)) = true := bne_iff_ne.mpr c13
            (first | rw [c13b0] | (simp only [i64_w, i32_w]; rw [c13b0]) | skip)
            have H' := Aside0.mk H
            clear H
            go_wp2
            go_meet
            case rel => exact ⟨_, (false), (by first | rfl | (simp; done) | (simp [*]; done)), H', ⟨by have := HJ3.out; first | omega | exact Nat.le_refl _⟩, ⟨by repeat (first | (with_reducible first | exact HB.out | apply below_alloc | apply pw_below_drewN | apply below_drew1) | exact HB.out)⟩⟩
        case rest =>
          clear HC12
          try clear c1
          try clear c2
          try clear p2
          try clear c6
          try clear c6b0
          try clear c6b1
          try clear c7
          try clear c8
          try clear c8b0
          try clear c8b1
          try clear c10
          try clear c13
          try clear c13b0
          try clear c13b1
          try clear p2
          obtain ⟨kq, x32_11, rfl, HA, HJ11, HB⟩ := hcut
          cases kq with
          | zero => exact absurd HA.out (by simp [athanorlaw01_FixSums.j1])
          | succ kj11 =>
            have H := HA.out
            clear HA
            simp only [athanorlaw01_FixSums.j1] at H
            by_cases c14 : x32_11 = true
            · subst c14
              have H1 : (if t224 = (wrap64 ((wrap64 (a0 + 4611686018427387904)) + 4611686018427387904)) then ((athanorlaw01_awake.f kj11).bind fun t225 => (some t225)) else (some false)) = some r := by rw [if_pos rfl] at H; exact H
              clear H
              have H := H1
              clear H1
              by_cases c15 : t224 = (wrap64 ((wrap64 (a0 + 4611686018427387904)) + 4611686018427387904))
              · rw [if_pos c15] at H
                have c15b0 : (t224 == (wrap64 ((wrap64 (a0 + 4611686018427387904)) + 4611686018427387904))) = true := beq_iff_eq.mpr c15
                have c15b1 : (t224 != (wrap64 ((wrap64 (a0 + 4611686018427387904)) + 4611686018427387904))) = false := bne_eq_false_iff_eq.mpr c15
                clear c15
                replace H := Option.bind_eq_some_iff.mp H
                obtain ⟨t225, A160, H⟩ := H
                replace H : (some t225) = some r := H
                have A16 := Aside0.mk A160
                clear A160
                obtain rfl := Option.some.inj H
                go_wp2_with (first | (go_at_call 11; (with_reducible refine (athanorlaw01_awake.calls kj11  t225 _ A16.out).mono ?_); rintro e w17 ⟨rfl, hb⟩; have n0_ := Aside0.mk (below_step (by repeat (first | (with_reducible first | exact HB.out | apply below_alloc | apply pw_below_drewN | apply below_drew1) | exact HB.out)) hb); clear HB; have HB := n0_; clear n0_; (try clear hb); (try clear hb2); (try clear hk); (try clear hi)))
                go_ret
                exact ⟨by first | rfl | (simp [errW_none, errW_some] <;> rfl) | (simp [*, errW_none, errW_some] <;> rfl), by repeat (first | (with_reducible first | exact HB.out | apply below_alloc | apply pw_below_drewN | apply below_drew1) | exact HB.out)⟩
              · rw [if_neg c15] at H
                have c15b0 : (t224 == (wrap64 ((wrap64 (a0 + 4611686018427387904)) + 4611686018427387904))) = false := beq_eq_false_iff_ne.mpr c15
                have c15b1 : (t224 != (wrap64 ((wrap64 (a0 + 4611686018427387904)) + 4611686018427387904))) = true := bne_iff_ne.mpr c15
                obtain rfl := Option.some.inj H
                go_wp2
                go_ret
                exact ⟨by first | rfl | (simp [errW_none, errW_some] <;> rfl) | (simp [*, errW_none, errW_some] <;> rfl), by repeat (first | (with_reducible first | exact HB.out | apply below_alloc | apply pw_below_drewN | apply below_drew1) | exact HB.out)⟩
            · replace c14 := Bool.eq_false_iff.mpr c14
              subst c14
              have H1 : (if a1 = (-9223372036854775808) then (if t224 = 9223372036854775807 then ((athanorlaw01_awake.f kj11).bind fun t226 => (some t226)) else (some false)) else ((athanorref01_Add.f kj11 a0 (wrap64 (-a1))).bind fun t227 => (if t224 = t227 then ((athanorlaw01_awake.f kj11).bind fun t228 => (some t228)) else (some false)))) = some r := by rw [if_neg (show ¬ (false = true) by decide)] at H; exact H
              clear H
              have H := H1
              clear H1
              by_cases c18 : a1 = (-9223372036854775808)
              · rw [if_pos c18] at H
                have c18b0 : (a1 == (-9223372036854775808)) = true := beq_iff_eq.mpr c18
                have c18b1 : (a1 != (-9223372036854775808)) = false := bne_eq_false_iff_eq.mpr c18
                clear c18
                by_cases c19 : t224 = 9223372036854775807
                · rw [if_pos c19] at H
                  have c19b0 : (t224 == 9223372036854775807) = true := beq_iff_eq.mpr c19
                  have c19b1 : (t224 != 9223372036854775807) = false := bne_eq_false_iff_eq.mpr c19
                  clear c19
                  replace H := Option.bind_eq_some_iff.mp H
                  obtain ⟨t226, A200, H⟩ := H
                  replace H : (some t226) = some r := H
                  have A20 := Aside0.mk A200
                  clear A200
                  obtain rfl := Option.some.inj H
                  go_wp2_with (first | (go_at_call 11; (with_reducible refine (athanorlaw01_awake.calls kj11  t226 _ A20.out).mono ?_); rintro e w21 ⟨rfl, hb⟩; have n0_ := Aside0.mk (below_step (by repeat (first | (with_reducible first | exact HB.out | apply below_alloc | apply pw_below_drewN | apply below_drew1) | exact HB.out)) hb); clear HB; have HB := n0_; clear n0_; (try clear hb); (try clear hb2); (try clear hk); (try clear hi)))
                  go_ret
                  exact ⟨by first | rfl | (simp [errW_none, errW_some] <;> rfl) | (simp [*, errW_none, errW_some] <;> rfl), by repeat (first | (with_reducible first | exact HB.out | apply below_alloc | apply pw_below_drewN | apply below_drew1) | exact HB.out)⟩
                · rw [if_neg c19] at H
                  have c19b0 : (t224 == 9223372036854775807) = false := beq_eq_false_iff_ne.mpr c19
                  have c19b1 : (t224 != 9223372036854775807) = true := bne_iff_ne.mpr c19
                  obtain rfl := Option.some.inj H
                  go_wp2
                  go_ret
                  exact ⟨by first | rfl | (simp [errW_none, errW_some] <;> rfl) | (simp [*, errW_none, errW_some] <;> rfl), by repeat (first | (with_reducible first | exact HB.out | apply below_alloc | apply pw_below_drewN | apply below_drew1) | exact HB.out)⟩
              · rw [if_neg c18] at H
                have c18b0 : (a1 == (-9223372036854775808)) = false := beq_eq_false_iff_ne.mpr c18
                have c18b1 : (a1 != (-9223372036854775808)) = true := bne_iff_ne.mpr c18
                replace H := Option.bind_eq_some_iff.mp H
                obtain ⟨t227, A220, H⟩ := H
                replace H : (if t224 = t227 then ((athanorlaw01_awake.f kj11).bind fun t228 => (some t228)) else (some false)) = some r := H
                have A22 := Aside0.mk A220
                clear A220
                by_cases c23 : t224 = t227
                · rw [if_pos c23] at H
                  have c23b0 : (t224 == t227) = true := beq_iff_eq.mpr c23
                  have c23b1 : (t224 != t227) = false := bne_eq_false_iff_eq.mpr c23
                  clear c23
                  replace H := Option.bind_eq_some_iff.mp H
                  obtain ⟨t228, A240, H⟩ := H
                  replace H : (some t228) = some r := H
                  have A24 := Aside0.mk A240
                  clear A240
                  obtain rfl := Option.some.inj H
                  go_wp2_with (first | ((with_reducible refine gate_callee (f := 21) rfl ?_); refine goesL_ (some 48) rfl rfl Try.func21 (by kernel_rfl) rfl #[.int .i64 a0, .int .i64 (wrap64 (-a1))] rfl (by (try simp only [List.map_toArray, List.map_cons, List.map_nil]); first | done | rfl | (simp only [List.length_drop, List.length_take]; rfl)) ?_; (with_reducible refine (athanorref01_Add.calls kj11 a0 (wrap64 (-a1)) t227 _ A22.out).mono ?_); rintro e w' ⟨rfl, ⟨nd, rfl⟩⟩; refine ⟨_, rfl, ?_⟩) | (go_at_call 11; (with_reducible refine (athanorlaw01_awake.calls kj11  t228 _ A24.out).mono ?_); rintro e w25 ⟨rfl, hb⟩; have n0_ := Aside0.mk (below_step (by repeat (first | (with_reducible first | exact HB.out | apply below_alloc | apply pw_below_drewN | apply below_drew1) | exact HB.out)) hb); clear HB; have HB := n0_; clear n0_; (try clear hb); (try clear hb2); (try clear hk); (try clear hi)))
                  go_ret
                  exact ⟨by first | rfl | (simp [errW_none, errW_some] <;> rfl) | (simp [*, errW_none, errW_some] <;> rfl), by repeat (first | (with_reducible first | exact HB.out | apply below_alloc | apply pw_below_drewN | apply below_drew1) | exact HB.out)⟩
                · rw [if_neg c23] at H
                  have c23b0 : (t224 == t227) = false := beq_eq_false_iff_ne.mpr c23
                  have c23b1 : (t224 != t227) = true := bne_iff_ne.mpr c23
                  obtain rfl := Option.some.inj H
                  go_wp2_with (first | ((with_reducible refine gate_callee (f := 21) rfl ?_); refine goesL_ (some 48) rfl rfl Try.func21 (by kernel_rfl) rfl #[.int .i64 a0, .int .i64 (wrap64 (-a1))] rfl (by (try simp only [List.map_toArray, List.map_cons, List.map_nil]); first | done | rfl | (simp only [List.length_drop, List.length_take]; rfl)) ?_; (with_reducible refine (athanorref01_Add.calls kj11 a0 (wrap64 (-a1)) t227 _ A22.out).mono ?_); rintro e w' ⟨rfl, ⟨nd, rfl⟩⟩; refine ⟨_, rfl, ?_⟩))
                  go_ret
                  exact ⟨by first | rfl | (simp [errW_none, errW_some] <;> rfl) | (simp [*, errW_none, errW_some] <;> rfl), by repeat (first | (with_reducible first | exact HB.out | apply below_alloc | apply pw_below_drewN | apply below_drew1) | exact HB.out)⟩

/-- THE ONE PURE STATEMENT of athanorlaw01_FixSums: yours. -/
def athanorlaw01_FixSums.Pure : Prop := ∀ (a0 : Int) (a1 : Int), (Lit.int .i64 a0).wf = true → (Lit.int .i64 a1).wf = true → ∃ k, athanorlaw01_FixSums.f k a0 a1 = some true
theorem athanorlaw01_FixSums.walk (P : athanorlaw01_FixSums.Pure) (a0 : Int) (a1 : Int) (w : World) (w0 : (Lit.int .i64 a0).wf = true) (w1 : (Lit.int .i64 a1).wf = true) :
    Calls Try.prog 7 #[.int .i64 a0, .int .i64 a1] w fun e w' => e = .returned (.bool true) ∧ Below w.heap.size w w' := by
  obtain ⟨k, h⟩ := P a0 a1 w0 w1
  refine (athanorlaw01_FixSums.calls k a0 a1 true w h).mono ?_
  rintro e w' ⟨rfl, hd⟩
  exact ⟨rfl, hd⟩

/-! ### fix_Clamp: function 26 -/
def fix_Clamp.f (a0 : Int) (a1 : Int) (a2 : Int) : Option (Int) := if a0 > a2 then (some a2) else (if a0 < a1 then (some a1) else (some a0))
set_option maxHeartbeats 8000000 in
set_option maxRecDepth 100000 in
theorem fix_Clamp.calls (a0 : Int) (a1 : Int) (a2 : Int) (r : Int) (w : World) (h : fix_Clamp.f a0 a1 a2 = some r) :
    Calls Try.prog 26 #[.int .i64 a0, .int .i64 a1, .int .i64 a2] w fun e w' => e = .returned (.int .i64 r) ∧ Drawn0 w w' := by
  have H : (if a0 > a2 then (some a2) else (if a0 < a1 then (some a1) else (some a0))) = some r := h
  clear h
  by_cases c4 : a0 > a2
  · rw [if_pos c4] at H
    have c4b0 : decide (a2 < a0) = true := decide_eq_true c4
    clear c4
    obtain rfl := Option.some.inj H
    go_enter Try.func26, Try.ntmps26
    go_wp2
    go_ret
    exact ⟨by first | rfl | (simp; done) | (simp [*]; done), by repeat (first | exact Drawn0.refl _ | apply Drawn0.step)⟩
  · rw [if_neg c4] at H
    have c4b0 : decide (a2 < a0) = false := decide_eq_false c4
    clear c4
    by_cases c5 : a0 < a1
    · rw [if_pos c5] at H
      have c5b0 : decide (a0 < a1) = true := decide_eq_true c5
      clear c5
      obtain rfl := Option.some.inj H
      go_enter Try.func26, Try.ntmps26
      go_wp2
      go_ret
      exact ⟨by first | rfl | (simp; done) | (simp [*]; done), by repeat (first | exact Drawn0.refl _ | apply Drawn0.step)⟩
    · rw [if_neg c5] at H
      have c5b0 : decide (a0 < a1) = false := decide_eq_false c5
      clear c5
      obtain rfl := Option.some.inj H
      go_enter Try.func26, Try.ntmps26
      go_wp2
      go_ret
      exact ⟨by first | rfl | (simp; done) | (simp [*]; done), by repeat (first | exact Drawn0.refl _ | apply Drawn0.step)⟩

/-! ### athanorlaw01_FixOrder: function 8 -/
def athanorlaw01_FixOrder.f (k : Nat) (a0 : Int) (a1 : Int) (a2 : Int) : Option (Bool) := (fix_Clamp.f a2 (mn a0 a1) (mx a0 a1)).bind fun t229 => ((fix_F_Mul.f k (mn a0 a1) (mx a2 0)).bind fun t230 => ((fix_F_Mul.f k (mx a0 a1) (mx a2 0)).bind fun t231 => (if t230 ≤ t231 then ((fix_F_Add.f k (mn a0 a1) a2).bind fun t232 => ((fix_F_Add.f k (mx a0 a1) a2).bind fun t233 => (if t232 ≤ t233 then (if t229 ≥ (mn a0 a1) then (if t229 ≤ (mx a0 a1) then (if t229 = a2 then (if a2 < (mn a0 a1) then ((athanorlaw01_awake.f k).bind fun t234 => (some t234)) else (if a2 > (mx a0 a1) then ((athanorlaw01_awake.f k).bind fun t235 => (some t235)) else ((athanorlaw01_awake.f k).bind fun t236 => (some t236)))) else (if t229 = (mn a0 a1) then (if a2 < (mn a0 a1) then ((athanorlaw01_awake.f k).bind fun t237 => (some t237)) else (if a2 > (mx a0 a1) then ((athanorlaw01_awake.f k).bind fun t238 => (some t238)) else (some false))) else (if t229 = (mx a0 a1) then (if a2 < (mn a0 a1) then ((athanorlaw01_awake.f k).bind fun t239 => (some t239)) else (if a2 > (mx a0 a1) then ((athanorlaw01_awake.f k).bind fun t240 => (some t240)) else (some false))) else (some false)))) else (some false)) else (some false)) else (some false)))) else (some false))))
theorem athanorlaw01_FixOrder.mono : ∀ a0 a1 a2 k, LeO (athanorlaw01_FixOrder.f k a0 a1 a2) (athanorlaw01_FixOrder.f (k + 1) a0 a1 a2) := by
  intro a0 a1 a2 k
  unfold athanorlaw01_FixOrder.f
  repeat' first
      | (with_reducible exact athanorlaw01_awake.mono _)
      | (with_reducible exact fix_F_Add.mono _ _ _)
      | (with_reducible exact fix_F_Mul.mono _ _ _)
      | (with_reducible exact LeO.refl _)
      | (with_reducible exact LeO.none _)
      | (with_reducible refine LeO.ite ?_ ?_)
      | (with_reducible refine LeO.bind ?_ (fun _ => ?_))
      | exact athanorlaw01_awake.mono _
      | exact fix_F_Add.mono _ _ _
      | exact fix_F_Mul.mono _ _ _
      | exact LeO.none _
      | refine LeO.ite ?_ ?_
      | refine LeO.bind ?_ (fun _ => ?_)
set_option maxHeartbeats 8000000 in
set_option maxRecDepth 100000 in
theorem athanorlaw01_FixOrder.calls (k : Nat) (a0 : Int) (a1 : Int) (a2 : Int) (r : Bool) (w : World) (h : athanorlaw01_FixOrder.f k a0 a1 a2 = some r) :
    Calls Try.prog 8 #[.int .i64 a0, .int .i64 a1, .int .i64 a2] w fun e w' => e = .returned (.bool r) ∧ Below w.heap.size w w' := by
  have HB := Aside0.mk (Below.refl w.heap.size w)
  have H : ((fix_Clamp.f a2 (mn a0 a1) (mx a0 a1)).bind fun t229 => ((fix_F_Mul.f k (mn a0 a1) (mx a2 0)).bind fun t230 => ((fix_F_Mul.f k (mx a0 a1) (mx a2 0)).bind fun t231 => (if t230 ≤ t231 then ((fix_F_Add.f k (mn a0 a1) a2).bind fun t232 => ((fix_F_Add.f k (mx a0 a1) a2).bind fun t233 => (if t232 ≤ t233 then (if t229 ≥ (mn a0 a1) then (if t229 ≤ (mx a0 a1) then (if t229 = a2 then (if a2 < (mn a0 a1) then ((athanorlaw01_awake.f k).bind fun t234 => (some t234)) else (if a2 > (mx a0 a1) then ((athanorlaw01_awake.f k).bind fun t235 => (some t235)) else ((athanorlaw01_awake.f k).bind fun t236 => (some t236)))) else (if t229 = (mn a0 a1) then (if a2 < (mn a0 a1) then ((athanorlaw01_awake.f k).bind fun t237 => (some t237)) else (if a2 > (mx a0 a1) then ((athanorlaw01_awake.f k).bind fun t238 => (some t238)) else (some false))) else (if t229 = (mx a0 a1) then (if a2 < (mn a0 a1) then ((athanorlaw01_awake.f k).bind fun t239 => (some t239)) else (if a2 > (mx a0 a1) then ((athanorlaw01_awake.f k).bind fun t240 => (some t240)) else (some false))) else (some false)))) else (some false)) else (some false)) else (some false)))) else (some false))))) = some r := h
  clear h
  obtain ⟨ji4, hji4⟩ : ∃ j_ : Int, (mn a0 a1) = j_ := ⟨_, rfl⟩
  replace H : ((fix_Clamp.f a2 (ji4) (mx a0 a1)).bind fun t229 => ((fix_F_Mul.f k (ji4) (mx a2 0)).bind fun t230 => ((fix_F_Mul.f k (mx a0 a1) (mx a2 0)).bind fun t231 => (if t230 ≤ t231 then ((fix_F_Add.f k (ji4) a2).bind fun t232 => ((fix_F_Add.f k (mx a0 a1) a2).bind fun t233 => (if t232 ≤ t233 then (if t229 ≥ (ji4) then (if t229 ≤ (mx a0 a1) then (if t229 = a2 then (if a2 < (ji4) then ((athanorlaw01_awake.f k).bind fun t234 => (some t234)) else (if a2 > (mx a0 a1) then ((athanorlaw01_awake.f k).bind fun t235 => (some t235)) else ((athanorlaw01_awake.f k).bind fun t236 => (some t236)))) else (if t229 = (ji4) then (if a2 < (ji4) then ((athanorlaw01_awake.f k).bind fun t237 => (some t237)) else (if a2 > (mx a0 a1) then ((athanorlaw01_awake.f k).bind fun t238 => (some t238)) else (some false))) else (if t229 = (mx a0 a1) then (if a2 < (ji4) then ((athanorlaw01_awake.f k).bind fun t239 => (some t239)) else (if a2 > (mx a0 a1) then ((athanorlaw01_awake.f k).bind fun t240 => (some t240)) else (some false))) else (some false)))) else (some false)) else (some false)) else (some false)))) else (some false))))) = some r := by first | (rw [hji4] at H; exact H) | (simp only [hji4] at H ⊢; exact H)
  have hji4_ : (if a1 < a0 then a1 else a0) = ji4 := hji4
  obtain ⟨ji5, hji5⟩ : ∃ j_ : Int, (mx a0 a1) = j_ := ⟨_, rfl⟩
  replace H : ((fix_Clamp.f a2 (ji4) (ji5)).bind fun t229 => ((fix_F_Mul.f k (ji4) (mx a2 0)).bind fun t230 => ((fix_F_Mul.f k (ji5) (mx a2 0)).bind fun t231 => (if t230 ≤ t231 then ((fix_F_Add.f k (ji4) a2).bind fun t232 => ((fix_F_Add.f k (ji5) a2).bind fun t233 => (if t232 ≤ t233 then (if t229 ≥ (ji4) then (if t229 ≤ (ji5) then (if t229 = a2 then (if a2 < (ji4) then ((athanorlaw01_awake.f k).bind fun t234 => (some t234)) else (if a2 > (ji5) then ((athanorlaw01_awake.f k).bind fun t235 => (some t235)) else ((athanorlaw01_awake.f k).bind fun t236 => (some t236)))) else (if t229 = (ji4) then (if a2 < (ji4) then ((athanorlaw01_awake.f k).bind fun t237 => (some t237)) else (if a2 > (ji5) then ((athanorlaw01_awake.f k).bind fun t238 => (some t238)) else (some false))) else (if t229 = (ji5) then (if a2 < (ji4) then ((athanorlaw01_awake.f k).bind fun t239 => (some t239)) else (if a2 > (ji5) then ((athanorlaw01_awake.f k).bind fun t240 => (some t240)) else (some false))) else (some false)))) else (some false)) else (some false)) else (some false)))) else (some false))))) = some r := by first | (rw [hji5] at H; exact H) | (simp only [hji5] at H ⊢; exact H)
  have hji5_ : (if a0 < a1 then a1 else a0) = ji5 := hji5
  obtain ⟨ji6, hji6⟩ : ∃ j_ : Int, (mx a2 0) = j_ := ⟨_, rfl⟩
  replace H : ((fix_Clamp.f a2 (ji4) (ji5)).bind fun t229 => ((fix_F_Mul.f k (ji4) (ji6)).bind fun t230 => ((fix_F_Mul.f k (ji5) (ji6)).bind fun t231 => (if t230 ≤ t231 then ((fix_F_Add.f k (ji4) a2).bind fun t232 => ((fix_F_Add.f k (ji5) a2).bind fun t233 => (if t232 ≤ t233 then (if t229 ≥ (ji4) then (if t229 ≤ (ji5) then (if t229 = a2 then (if a2 < (ji4) then ((athanorlaw01_awake.f k).bind fun t234 => (some t234)) else (if a2 > (ji5) then ((athanorlaw01_awake.f k).bind fun t235 => (some t235)) else ((athanorlaw01_awake.f k).bind fun t236 => (some t236)))) else (if t229 = (ji4) then (if a2 < (ji4) then ((athanorlaw01_awake.f k).bind fun t237 => (some t237)) else (if a2 > (ji5) then ((athanorlaw01_awake.f k).bind fun t238 => (some t238)) else (some false))) else (if t229 = (ji5) then (if a2 < (ji4) then ((athanorlaw01_awake.f k).bind fun t239 => (some t239)) else (if a2 > (ji5) then ((athanorlaw01_awake.f k).bind fun t240 => (some t240)) else (some false))) else (some false)))) else (some false)) else (some false)) else (some false)))) else (some false))))) = some r := by first | (rw [hji6] at H; exact H) | (simp only [hji6] at H ⊢; exact H)
  (try (have hji6l : 0 ≤ ji6 := by (rw [← hji6]; unfold mx; (repeat' split) <;> omega)))
  (try (have hji6m : 0 ≤ ji6 := by omega))
  have hji6_ : (if a2 < 0 then 0 else a2) = ji6 := hji6
  replace H := Option.bind_eq_some_iff.mp H
  obtain ⟨t229, A70, H⟩ := H
  replace H : ((fix_F_Mul.f k (ji4) (ji6)).bind fun t230 => ((fix_F_Mul.f k (ji5) (ji6)).bind fun t231 => (if t230 ≤ t231 then ((fix_F_Add.f k (ji4) a2).bind fun t232 => ((fix_F_Add.f k (ji5) a2).bind fun t233 => (if t232 ≤ t233 then (if t229 ≥ (ji4) then (if t229 ≤ (ji5) then (if t229 = a2 then (if a2 < (ji4) then ((athanorlaw01_awake.f k).bind fun t234 => (some t234)) else (if a2 > (ji5) then ((athanorlaw01_awake.f k).bind fun t235 => (some t235)) else ((athanorlaw01_awake.f k).bind fun t236 => (some t236)))) else (if t229 = (ji4) then (if a2 < (ji4) then ((athanorlaw01_awake.f k).bind fun t237 => (some t237)) else (if a2 > (ji5) then ((athanorlaw01_awake.f k).bind fun t238 => (some t238)) else (some false))) else (if t229 = (ji5) then (if a2 < (ji4) then ((athanorlaw01_awake.f k).bind fun t239 => (some t239)) else (if a2 > (ji5) then ((athanorlaw01_awake.f k).bind fun t240 => (some t240)) else (some false))) else (some false)))) else (some false)) else (some false)) else (some false)))) else (some false)))) = some r := H
  have A7 := Aside0.mk A70
  clear A70
  replace H := Option.bind_eq_some_iff.mp H
  obtain ⟨t230, A80, H⟩ := H
  replace H : ((fix_F_Mul.f k (ji5) (ji6)).bind fun t231 => (if t230 ≤ t231 then ((fix_F_Add.f k (ji4) a2).bind fun t232 => ((fix_F_Add.f k (ji5) a2).bind fun t233 => (if t232 ≤ t233 then (if t229 ≥ (ji4) then (if t229 ≤ (ji5) then (if t229 = a2 then (if a2 < (ji4) then ((athanorlaw01_awake.f k).bind fun t234 => (some t234)) else (if a2 > (ji5) then ((athanorlaw01_awake.f k).bind fun t235 => (some t235)) else ((athanorlaw01_awake.f k).bind fun t236 => (some t236)))) else (if t229 = (ji4) then (if a2 < (ji4) then ((athanorlaw01_awake.f k).bind fun t237 => (some t237)) else (if a2 > (ji5) then ((athanorlaw01_awake.f k).bind fun t238 => (some t238)) else (some false))) else (if t229 = (ji5) then (if a2 < (ji4) then ((athanorlaw01_awake.f k).bind fun t239 => (some t239)) else (if a2 > (ji5) then ((athanorlaw01_awake.f k).bind fun t240 => (some t240)) else (some false))) else (some false)))) else (some false)) else (some false)) else (some false)))) else (some false))) = some r := H
  have A8 := Aside0.mk A80
  clear A80
  replace H := Option.bind_eq_some_iff.mp H
  obtain ⟨t231, A90, H⟩ := H
  replace H : (if t230 ≤ t231 then ((fix_F_Add.f k (ji4) a2).bind fun t232 => ((fix_F_Add.f k (ji5) a2).bind fun t233 => (if t232 ≤ t233 then (if t229 ≥ (ji4) then (if t229 ≤ (ji5) then (if t229 = a2 then (if a2 < (ji4) then ((athanorlaw01_awake.f k).bind fun t234 => (some t234)) else (if a2 > (ji5) then ((athanorlaw01_awake.f k).bind fun t235 => (some t235)) else ((athanorlaw01_awake.f k).bind fun t236 => (some t236)))) else (if t229 = (ji4) then (if a2 < (ji4) then ((athanorlaw01_awake.f k).bind fun t237 => (some t237)) else (if a2 > (ji5) then ((athanorlaw01_awake.f k).bind fun t238 => (some t238)) else (some false))) else (if t229 = (ji5) then (if a2 < (ji4) then ((athanorlaw01_awake.f k).bind fun t239 => (some t239)) else (if a2 > (ji5) then ((athanorlaw01_awake.f k).bind fun t240 => (some t240)) else (some false))) else (some false)))) else (some false)) else (some false)) else (some false)))) else (some false)) = some r := H
  have A9 := Aside0.mk A90
  clear A90
  by_cases c10 : t230 ≤ t231
  · rw [if_pos c10] at H
    have c10b0 : decide (t230 ≤ t231) = true := decide_eq_true c10
    clear c10
    replace H := Option.bind_eq_some_iff.mp H
    obtain ⟨t232, A110, H⟩ := H
    replace H : ((fix_F_Add.f k (ji5) a2).bind fun t233 => (if t232 ≤ t233 then (if t229 ≥ (ji4) then (if t229 ≤ (ji5) then (if t229 = a2 then (if a2 < (ji4) then ((athanorlaw01_awake.f k).bind fun t234 => (some t234)) else (if a2 > (ji5) then ((athanorlaw01_awake.f k).bind fun t235 => (some t235)) else ((athanorlaw01_awake.f k).bind fun t236 => (some t236)))) else (if t229 = (ji4) then (if a2 < (ji4) then ((athanorlaw01_awake.f k).bind fun t237 => (some t237)) else (if a2 > (ji5) then ((athanorlaw01_awake.f k).bind fun t238 => (some t238)) else (some false))) else (if t229 = (ji5) then (if a2 < (ji4) then ((athanorlaw01_awake.f k).bind fun t239 => (some t239)) else (if a2 > (ji5) then ((athanorlaw01_awake.f k).bind fun t240 => (some t240)) else (some false))) else (some false)))) else (some false)) else (some false)) else (some false))) = some r := H
    have A11 := Aside0.mk A110
    clear A110
    replace H := Option.bind_eq_some_iff.mp H
    obtain ⟨t233, A120, H⟩ := H
    replace H : (if t232 ≤ t233 then (if t229 ≥ (ji4) then (if t229 ≤ (ji5) then (if t229 = a2 then (if a2 < (ji4) then ((athanorlaw01_awake.f k).bind fun t234 => (some t234)) else (if a2 > (ji5) then ((athanorlaw01_awake.f k).bind fun t235 => (some t235)) else ((athanorlaw01_awake.f k).bind fun t236 => (some t236)))) else (if t229 = (ji4) then (if a2 < (ji4) then ((athanorlaw01_awake.f k).bind fun t237 => (some t237)) else (if a2 > (ji5) then ((athanorlaw01_awake.f k).bind fun t238 => (some t238)) else (some false))) else (if t229 = (ji5) then (if a2 < (ji4) then ((athanorlaw01_awake.f k).bind fun t239 => (some t239)) else (if a2 > (ji5) then ((athanorlaw01_awake.f k).bind fun t240 => (some t240)) else (some false))) else (some false)))) else (some false)) else (some false)) else (some false)) = some r := H
    have A12 := Aside0.mk A120
    clear A120
    by_cases c13 : t232 ≤ t233
    · rw [if_pos c13] at H
      have c13b0 : decide (t232 ≤ t233) = true := decide_eq_true c13
      clear c13
      by_cases c14 : t229 ≥ (ji4)
      · rw [if_pos c14] at H
        have c14b0 : decide ((ji4) ≤ t229) = true := decide_eq_true c14
        clear c14
        by_cases c15 : t229 ≤ (ji5)
        · rw [if_pos c15] at H
          have c15b0 : decide (t229 ≤ (ji5)) = true := decide_eq_true c15
          clear c15
          by_cases c16 : t229 = a2
          · rw [if_pos c16] at H
            have c16b0 : (t229 == a2) = true := beq_iff_eq.mpr c16
            have c16b1 : (t229 != a2) = false := bne_eq_false_iff_eq.mpr c16
            clear c16
            by_cases c17 : a2 < (ji4)
            · rw [if_pos c17] at H
              have c17b0 : decide (a2 < (ji4)) = true := decide_eq_true c17
              clear c17
              replace H := Option.bind_eq_some_iff.mp H
              obtain ⟨t234, A180, H⟩ := H
              replace H : (some t234) = some r := H
              have A18 := Aside0.mk A180
              clear A180
              obtain rfl := Option.some.inj H
              go_enter Try.func8, Try.ntmps8
              go_wp2_with (first | ((with_reducible refine gate_callee (f := 26) rfl ?_); refine goesL_ (some 22) rfl rfl Try.func26 (by kernel_rfl) rfl #[.int .i64 a2, .int .i64 ji4, .int .i64 ji5] rfl (by (try simp only [List.map_toArray, List.map_cons, List.map_nil]); first | done | (simp only [hji4, hji5]; rfl) | rfl | (simp only [List.length_drop, List.length_take]; rfl)) ?_; (with_reducible refine (fix_Clamp.calls a2 ji4 ji5 t229 _ A7.out).mono ?_); rintro e w' ⟨rfl, ⟨nd, rfl⟩⟩; refine ⟨_, rfl, ?_⟩) | ((with_reducible refine gate_callee (f := 9) rfl ?_); refine goesL_ (some 25) rfl rfl Try.func9 (by kernel_rfl) rfl #[.int .i64 ji4, .int .i64 ji6] rfl (by (try simp only [List.map_toArray, List.map_cons, List.map_nil]); first | done | (simp only [hji4, hji6]; rfl) | rfl | (simp only [List.length_drop, List.length_take]; rfl)) ?_; (with_reducible refine (fix_F_Mul.calls k ji4 ji6 t230 _ A8.out).mono ?_); rintro e w' ⟨rfl, ⟨nd, rfl⟩⟩; refine ⟨_, rfl, ?_⟩) | ((with_reducible refine gate_callee (f := 9) rfl ?_); refine goesL_ (some 28) rfl rfl Try.func9 (by kernel_rfl) rfl #[.int .i64 ji5, .int .i64 ji6] rfl (by (try simp only [List.map_toArray, List.map_cons, List.map_nil]); first | done | (simp only [hji5, hji6]; rfl) | rfl | (simp only [List.length_drop, List.length_take]; rfl)) ?_; (with_reducible refine (fix_F_Mul.calls k ji5 ji6 t231 _ A9.out).mono ?_); rintro e w' ⟨rfl, ⟨nd, rfl⟩⟩; refine ⟨_, rfl, ?_⟩) | (go_at_call 24; (with_reducible refine (fix_F_Add.calls k ji4 a2 t232 _ A11.out).mono ?_); rintro e w' ⟨rfl, ⟨nd, rfl⟩⟩) | (go_at_call 24; (with_reducible refine (fix_F_Add.calls k ji5 a2 t233 _ A12.out).mono ?_); rintro e w' ⟨rfl, ⟨nd, rfl⟩⟩) | (go_at_call 11; (with_reducible refine (athanorlaw01_awake.calls k  t234 _ A18.out).mono ?_); rintro e w19 ⟨rfl, hb⟩; have n0_ := Aside0.mk (below_step (by repeat (first | (with_reducible first | exact HB.out | apply below_alloc | apply pw_below_drewN | apply below_drew1) | exact HB.out)) hb); clear HB; have HB := n0_; clear n0_; (try clear hb); (try clear hb2); (try clear hk); (try clear hi)))
              go_ret
              exact ⟨by first | rfl | (simp [errW_none, errW_some] <;> rfl) | (simp only [← hji4, ← hji5, ← hji6]; first | rfl | (simp [errW_none, errW_some] <;> rfl)) | (simp [*, errW_none, errW_some] <;> rfl), by repeat (first | (with_reducible first | exact HB.out | apply below_alloc | apply pw_below_drewN | apply below_drew1) | exact HB.out)⟩
            · rw [if_neg c17] at H
              have c17b0 : decide (a2 < (ji4)) = false := decide_eq_false c17
              clear c17
              by_cases c20 : a2 > (ji5)
              · rw [if_pos c20] at H
                have c20b0 : decide ((ji5) < a2) = true := decide_eq_true c20
                clear c20
                replace H := Option.bind_eq_some_iff.mp H
                obtain ⟨t235, A210, H⟩ := H
                replace H : (some t235) = some r := H
                have A21 := Aside0.mk A210
                clear A210
                obtain rfl := Option.some.inj H
                go_enter Try.func8, Try.ntmps8
                go_wp2_with (first | ((with_reducible refine gate_callee (f := 26) rfl ?_); refine goesL_ (some 22) rfl rfl Try.func26 (by kernel_rfl) rfl #[.int .i64 a2, .int .i64 ji4, .int .i64 ji5] rfl (by (try simp only [List.map_toArray, List.map_cons, List.map_nil]); first | done | (simp only [hji4, hji5]; rfl) | rfl | (simp only [List.length_drop, List.length_take]; rfl)) ?_; (with_reducible refine (fix_Clamp.calls a2 ji4 ji5 t229 _ A7.out).mono ?_); rintro e w' ⟨rfl, ⟨nd, rfl⟩⟩; refine ⟨_, rfl, ?_⟩) | ((with_reducible refine gate_callee (f := 9) rfl ?_); refine goesL_ (some 25) rfl rfl Try.func9 (by kernel_rfl) rfl #[.int .i64 ji4, .int .i64 ji6] rfl (by (try simp only [List.map_toArray, List.map_cons, List.map_nil]); first | done | (simp only [hji4, hji6]; rfl) | rfl | (simp only [List.length_drop, List.length_take]; rfl)) ?_; (with_reducible refine (fix_F_Mul.calls k ji4 ji6 t230 _ A8.out).mono ?_); rintro e w' ⟨rfl, ⟨nd, rfl⟩⟩; refine ⟨_, rfl, ?_⟩) | ((with_reducible refine gate_callee (f := 9) rfl ?_); refine goesL_ (some 28) rfl rfl Try.func9 (by kernel_rfl) rfl #[.int .i64 ji5, .int .i64 ji6] rfl (by (try simp only [List.map_toArray, List.map_cons, List.map_nil]); first | done | (simp only [hji5, hji6]; rfl) | rfl | (simp only [List.length_drop, List.length_take]; rfl)) ?_; (with_reducible refine (fix_F_Mul.calls k ji5 ji6 t231 _ A9.out).mono ?_); rintro e w' ⟨rfl, ⟨nd, rfl⟩⟩; refine ⟨_, rfl, ?_⟩) | (go_at_call 24; (with_reducible refine (fix_F_Add.calls k ji4 a2 t232 _ A11.out).mono ?_); rintro e w' ⟨rfl, ⟨nd, rfl⟩⟩) | (go_at_call 24; (with_reducible refine (fix_F_Add.calls k ji5 a2 t233 _ A12.out).mono ?_); rintro e w' ⟨rfl, ⟨nd, rfl⟩⟩) | (go_at_call 11; (with_reducible refine (athanorlaw01_awake.calls k  t235 _ A21.out).mono ?_); rintro e w22 ⟨rfl, hb⟩; have n0_ := Aside0.mk (below_step (by repeat (first | (with_reducible first | exact HB.out | apply below_alloc | apply pw_below_drewN | apply below_drew1) | exact HB.out)) hb); clear HB; have HB := n0_; clear n0_; (try clear hb); (try clear hb2); (try clear hk); (try clear hi)))
                go_ret
                exact ⟨by first | rfl | (simp [errW_none, errW_some] <;> rfl) | (simp only [← hji4, ← hji5, ← hji6]; first | rfl | (simp [errW_none, errW_some] <;> rfl)) | (simp [*, errW_none, errW_some] <;> rfl), by repeat (first | (with_reducible first | exact HB.out | apply below_alloc | apply pw_below_drewN | apply below_drew1) | exact HB.out)⟩
              · rw [if_neg c20] at H
                have c20b0 : decide ((ji5) < a2) = false := decide_eq_false c20
                clear c20
                replace H := Option.bind_eq_some_iff.mp H
                obtain ⟨t236, A230, H⟩ := H
                replace H : (some t236) = some r := H
                have A23 := Aside0.mk A230
                clear A230
                obtain rfl := Option.some.inj H
                go_enter Try.func8, Try.ntmps8
                go_wp2_with (first | ((with_reducible refine gate_callee (f := 26) rfl ?_); refine goesL_ (some 22) rfl rfl Try.func26 (by kernel_rfl) rfl #[.int .i64 a2, .int .i64 ji4, .int .i64 ji5] rfl (by (try simp only [List.map_toArray, List.map_cons, List.map_nil]); first | done | (simp only [hji4, hji5]; rfl) | rfl | (simp only [List.length_drop, List.length_take]; rfl)) ?_; (with_reducible refine (fix_Clamp.calls a2 ji4 ji5 t229 _ A7.out).mono ?_); rintro e w' ⟨rfl, ⟨nd, rfl⟩⟩; refine ⟨_, rfl, ?_⟩) | ((with_reducible refine gate_callee (f := 9) rfl ?_); refine goesL_ (some 25) rfl rfl Try.func9 (by kernel_rfl) rfl #[.int .i64 ji4, .int .i64 ji6] rfl (by (try simp only [List.map_toArray, List.map_cons, List.map_nil]); first | done | (simp only [hji4, hji6]; rfl) | rfl | (simp only [List.length_drop, List.length_take]; rfl)) ?_; (with_reducible refine (fix_F_Mul.calls k ji4 ji6 t230 _ A8.out).mono ?_); rintro e w' ⟨rfl, ⟨nd, rfl⟩⟩; refine ⟨_, rfl, ?_⟩) | ((with_reducible refine gate_callee (f := 9) rfl ?_); refine goesL_ (some 28) rfl rfl Try.func9 (by kernel_rfl) rfl #[.int .i64 ji5, .int .i64 ji6] rfl (by (try simp only [List.map_toArray, List.map_cons, List.map_nil]); first | done | (simp only [hji5, hji6]; rfl) | rfl | (simp only [List.length_drop, List.length_take]; rfl)) ?_; (with_reducible refine (fix_F_Mul.calls k ji5 ji6 t231 _ A9.out).mono ?_); rintro e w' ⟨rfl, ⟨nd, rfl⟩⟩; refine ⟨_, rfl, ?_⟩) | (go_at_call 24; (with_reducible refine (fix_F_Add.calls k ji4 a2 t232 _ A11.out).mono ?_); rintro e w' ⟨rfl, ⟨nd, rfl⟩⟩) | (go_at_call 24; (with_reducible refine (fix_F_Add.calls k ji5 a2 t233 _ A12.out).mono ?_); rintro e w' ⟨rfl, ⟨nd, rfl⟩⟩) | (go_at_call 11; (with_reducible refine (athanorlaw01_awake.calls k  t236 _ A23.out).mono ?_); rintro e w24 ⟨rfl, hb⟩; have n0_ := Aside0.mk (below_step (by repeat (first | (with_reducible first | exact HB.out | apply below_alloc | apply pw_below_drewN | apply below_drew1) | exact HB.out)) hb); clear HB; have HB := n0_; clear n0_; (try clear hb); (try clear hb2); (try clear hk); (try clear hi)))
                go_ret
                exact ⟨by first | rfl | (simp [errW_none, errW_some] <;> rfl) | (simp only [← hji4, ← hji5, ← hji6]; first | rfl | (simp [errW_none, errW_some] <;> rfl)) | (simp [*, errW_none, errW_some] <;> rfl), by repeat (first | (with_reducible first | exact HB.out | apply below_alloc | apply pw_below_drewN | apply below_drew1) | exact HB.out)⟩
          · rw [if_neg c16] at H
            have c16b0 : (t229 == a2) = false := beq_eq_false_iff_ne.mpr c16
            have c16b1 : (t229 != a2) = true := bne_iff_ne.mpr c16
            by_cases c25 : t229 = (ji4)
            · rw [if_pos c25] at H
              have c25b0 : (t229 == (ji4)) = true := beq_iff_eq.mpr c25
              have c25b1 : (t229 != (ji4)) = false := bne_eq_false_iff_eq.mpr c25
              clear c25
              by_cases c26 : a2 < (ji4)
              · rw [if_pos c26] at H
                have c26b0 : decide (a2 < (ji4)) = true := decide_eq_true c26
                clear c26
                replace H := Option.bind_eq_some_iff.mp H
                obtain ⟨t237, A270, H⟩ := H
                replace H : (some t237) = some r := H
                have A27 := Aside0.mk A270
                clear A270
                obtain rfl := Option.some.inj H
                go_enter Try.func8, Try.ntmps8
                go_wp2_with (first | ((with_reducible refine gate_callee (f := 26) rfl ?_); refine goesL_ (some 22) rfl rfl Try.func26 (by kernel_rfl) rfl #[.int .i64 a2, .int .i64 ji4, .int .i64 ji5] rfl (by (try simp only [List.map_toArray, List.map_cons, List.map_nil]); first | done | (simp only [hji4, hji5]; rfl) | rfl | (simp only [List.length_drop, List.length_take]; rfl)) ?_; (with_reducible refine (fix_Clamp.calls a2 ji4 ji5 t229 _ A7.out).mono ?_); rintro e w' ⟨rfl, ⟨nd, rfl⟩⟩; refine ⟨_, rfl, ?_⟩) | ((with_reducible refine gate_callee (f := 9) rfl ?_); refine goesL_ (some 25) rfl rfl Try.func9 (by kernel_rfl) rfl #[.int .i64 ji4, .int .i64 ji6] rfl (by (try simp only [List.map_toArray, List.map_cons, List.map_nil]); first | done | (simp only [hji4, hji6]; rfl) | rfl | (simp only [List.length_drop, List.length_take]; rfl)) ?_; (with_reducible refine (fix_F_Mul.calls k ji4 ji6 t230 _ A8.out).mono ?_); rintro e w' ⟨rfl, ⟨nd, rfl⟩⟩; refine ⟨_, rfl, ?_⟩) | ((with_reducible refine gate_callee (f := 9) rfl ?_); refine goesL_ (some 28) rfl rfl Try.func9 (by kernel_rfl) rfl #[.int .i64 ji5, .int .i64 ji6] rfl (by (try simp only [List.map_toArray, List.map_cons, List.map_nil]); first | done | (simp only [hji5, hji6]; rfl) | rfl | (simp only [List.length_drop, List.length_take]; rfl)) ?_; (with_reducible refine (fix_F_Mul.calls k ji5 ji6 t231 _ A9.out).mono ?_); rintro e w' ⟨rfl, ⟨nd, rfl⟩⟩; refine ⟨_, rfl, ?_⟩) | (go_at_call 24; (with_reducible refine (fix_F_Add.calls k ji4 a2 t232 _ A11.out).mono ?_); rintro e w' ⟨rfl, ⟨nd, rfl⟩⟩) | (go_at_call 24; (with_reducible refine (fix_F_Add.calls k ji5 a2 t233 _ A12.out).mono ?_); rintro e w' ⟨rfl, ⟨nd, rfl⟩⟩) | (go_at_call 11; (with_reducible refine (athanorlaw01_awake.calls k  t237 _ A27.out).mono ?_); rintro e w28 ⟨rfl, hb⟩; have n0_ := Aside0.mk (below_step (by repeat (first | (with_reducible first | exact HB.out | apply below_alloc | apply pw_below_drewN | apply below_drew1) | exact HB.out)) hb); clear HB; have HB := n0_; clear n0_; (try clear hb); (try clear hb2); (try clear hk); (try clear hi)))
                go_ret
                exact ⟨by first | rfl | (simp [errW_none, errW_some] <;> rfl) | (simp only [← hji4, ← hji5, ← hji6]; first | rfl | (simp [errW_none, errW_some] <;> rfl)) | (simp [*, errW_none, errW_some] <;> rfl), by repeat (first | (with_reducible first | exact HB.out | apply below_alloc | apply pw_below_drewN | apply below_drew1) | exact HB.out)⟩
              · rw [if_neg c26] at H
                have c26b0 : decide (a2 < (ji4)) = false := decide_eq_false c26
                clear c26
                by_cases c29 : a2 > (ji5)
                · rw [if_pos c29] at H
                  have c29b0 : decide ((ji5) < a2) = true := decide_eq_true c29
                  clear c29
                  replace H := Option.bind_eq_some_iff.mp H
                  obtain ⟨t238, A300, H⟩ := H
                  replace H : (some t238) = some r := H
                  have A30 := Aside0.mk A300
                  clear A300
                  obtain rfl := Option.some.inj H
                  go_enter Try.func8, Try.ntmps8
                  go_wp2_with (first | ((with_reducible refine gate_callee (f := 26) rfl ?_); refine goesL_ (some 22) rfl rfl Try.func26 (by kernel_rfl) rfl #[.int .i64 a2, .int .i64 ji4, .int .i64 ji5] rfl (by (try simp only [List.map_toArray, List.map_cons, List.map_nil]); first | done | (simp only [hji4, hji5]; rfl) | rfl | (simp only [List.length_drop, List.length_take]; rfl)) ?_; (with_reducible refine (fix_Clamp.calls a2 ji4 ji5 t229 _ A7.out).mono ?_); rintro e w' ⟨rfl, ⟨nd, rfl⟩⟩; refine ⟨_, rfl, ?_⟩) | ((with_reducible refine gate_callee (f := 9) rfl ?_); refine goesL_ (some 25) rfl rfl Try.func9 (by kernel_rfl) rfl #[.int .i64 ji4, .int .i64 ji6] rfl (by (try simp only [List.map_toArray, List.map_cons, List.map_nil]); first | done | (simp only [hji4, hji6]; rfl) | rfl | (simp only [List.length_drop, List.length_take]; rfl)) ?_; (with_reducible refine (fix_F_Mul.calls k ji4 ji6 t230 _ A8.out).mono ?_); rintro e w' ⟨rfl, ⟨nd, rfl⟩⟩; refine ⟨_, rfl, ?_⟩) | ((with_reducible refine gate_callee (f := 9) rfl ?_); refine goesL_ (some 28) rfl rfl Try.func9 (by kernel_rfl) rfl #[.int .i64 ji5, .int .i64 ji6] rfl (by (try simp only [List.map_toArray, List.map_cons, List.map_nil]); first | done | (simp only [hji5, hji6]; rfl) | rfl | (simp only [List.length_drop, List.length_take]; rfl)) ?_; (with_reducible refine (fix_F_Mul.calls k ji5 ji6 t231 _ A9.out).mono ?_); rintro e w' ⟨rfl, ⟨nd, rfl⟩⟩; refine ⟨_, rfl, ?_⟩) | (go_at_call 24; (with_reducible refine (fix_F_Add.calls k ji4 a2 t232 _ A11.out).mono ?_); rintro e w' ⟨rfl, ⟨nd, rfl⟩⟩) | (go_at_call 24; (with_reducible refine (fix_F_Add.calls k ji5 a2 t233 _ A12.out).mono ?_); rintro e w' ⟨rfl, ⟨nd, rfl⟩⟩) | (go_at_call 11; (with_reducible refine (athanorlaw01_awake.calls k  t238 _ A30.out).mono ?_); rintro e w31 ⟨rfl, hb⟩; have n0_ := Aside0.mk (below_step (by repeat (first | (with_reducible first | exact HB.out | apply below_alloc | apply pw_below_drewN | apply below_drew1) | exact HB.out)) hb); clear HB; have HB := n0_; clear n0_; (try clear hb); (try clear hb2); (try clear hk); (try clear hi)))
                  go_ret
                  exact ⟨by first | rfl | (simp [errW_none, errW_some] <;> rfl) | (simp only [← hji4, ← hji5, ← hji6]; first | rfl | (simp [errW_none, errW_some] <;> rfl)) | (simp [*, errW_none, errW_some] <;> rfl), by repeat (first | (with_reducible first | exact HB.out | apply below_alloc | apply pw_below_drewN | apply below_drew1) | exact HB.out)⟩
                · rw [if_neg c29] at H
                  have c29b0 : decide ((ji5) < a2) = false := decide_eq_false c29
                  clear c29
                  obtain rfl := Option.some.inj H
                  go_enter Try.func8, Try.ntmps8
                  go_wp2_with (first | ((with_reducible refine gate_callee (f := 26) rfl ?_); refine goesL_ (some 22) rfl rfl Try.func26 (by kernel_rfl) rfl #[.int .i64 a2, .int .i64 ji4, .int .i64 ji5] rfl (by (try simp only [List.map_toArray, List.map_cons, List.map_nil]); first | done | (simp only [hji4, hji5]; rfl) | rfl | (simp only [List.length_drop, List.length_take]; rfl)) ?_; (with_reducible refine (fix_Clamp.calls a2 ji4 ji5 t229 _ A7.out).mono ?_); rintro e w' ⟨rfl, ⟨nd, rfl⟩⟩; refine ⟨_, rfl, ?_⟩) | ((with_reducible refine gate_callee (f := 9) rfl ?_); refine goesL_ (some 25) rfl rfl Try.func9 (by kernel_rfl) rfl #[.int .i64 ji4, .int .i64 ji6] rfl (by (try simp only [List.map_toArray, List.map_cons, List.map_nil]); first | done | (simp only [hji4, hji6]; rfl) | rfl | (simp only [List.length_drop, List.length_take]; rfl)) ?_; (with_reducible refine (fix_F_Mul.calls k ji4 ji6 t230 _ A8.out).mono ?_); rintro e w' ⟨rfl, ⟨nd, rfl⟩⟩; refine ⟨_, rfl, ?_⟩) | ((with_reducible refine gate_callee (f := 9) rfl ?_); refine goesL_ (some 28) rfl rfl Try.func9 (by kernel_rfl) rfl #[.int .i64 ji5, .int .i64 ji6] rfl (by (try simp only [List.map_toArray, List.map_cons, List.map_nil]); first | done | (simp only [hji5, hji6]; rfl) | rfl | (simp only [List.length_drop, List.length_take]; rfl)) ?_; (with_reducible refine (fix_F_Mul.calls k ji5 ji6 t231 _ A9.out).mono ?_); rintro e w' ⟨rfl, ⟨nd, rfl⟩⟩; refine ⟨_, rfl, ?_⟩) | (go_at_call 24; (with_reducible refine (fix_F_Add.calls k ji4 a2 t232 _ A11.out).mono ?_); rintro e w' ⟨rfl, ⟨nd, rfl⟩⟩) | (go_at_call 24; (with_reducible refine (fix_F_Add.calls k ji5 a2 t233 _ A12.out).mono ?_); rintro e w' ⟨rfl, ⟨nd, rfl⟩⟩))
                  go_ret
                  exact ⟨by first | rfl | (simp [errW_none, errW_some] <;> rfl) | (simp only [← hji4, ← hji5, ← hji6]; first | rfl | (simp [errW_none, errW_some] <;> rfl)) | (simp [*, errW_none, errW_some] <;> rfl), by repeat (first | (with_reducible first | exact HB.out | apply below_alloc | apply pw_below_drewN | apply below_drew1) | exact HB.out)⟩
            · rw [if_neg c25] at H
              have c25b0 : (t229 == (ji4)) = false := beq_eq_false_iff_ne.mpr c25
              have c25b1 : (t229 != (ji4)) = true := bne_iff_ne.mpr c25
              by_cases c32 : t229 = (ji5)
              · rw [if_pos c32] at H
                have c32b0 : (t229 == (ji5)) = true := beq_iff_eq.mpr c32
                have c32b1 : (t229 != (ji5)) = false := bne_eq_false_iff_eq.mpr c32
                clear c32
                by_cases c33 : a2 < (ji4)
                · rw [if_pos c33] at H
                  have c33b0 : decide (a2 < (ji4)) = true := decide_eq_true c33
                  clear c33
                  replace H := Option.bind_eq_some_iff.mp H
                  obtain ⟨t239, A340, H⟩ := H
                  replace H : (some t239) = some r := H
                  have A34 := Aside0.mk A340
                  clear A340
                  obtain rfl := Option.some.inj H
                  go_enter Try.func8, Try.ntmps8
                  go_wp2_with (first | ((with_reducible refine gate_callee (f := 26) rfl ?_); refine goesL_ (some 22) rfl rfl Try.func26 (by kernel_rfl) rfl #[.int .i64 a2, .int .i64 ji4, .int .i64 ji5] rfl (by (try simp only [List.map_toArray, List.map_cons, List.map_nil]); first | done | (simp only [hji4, hji5]; rfl) | rfl | (simp only [List.length_drop, List.length_take]; rfl)) ?_; (with_reducible refine (fix_Clamp.calls a2 ji4 ji5 t229 _ A7.out).mono ?_); rintro e w' ⟨rfl, ⟨nd, rfl⟩⟩; refine ⟨_, rfl, ?_⟩) | ((with_reducible refine gate_callee (f := 9) rfl ?_); refine goesL_ (some 25) rfl rfl Try.func9 (by kernel_rfl) rfl #[.int .i64 ji4, .int .i64 ji6] rfl (by (try simp only [List.map_toArray, List.map_cons, List.map_nil]); first | done | (simp only [hji4, hji6]; rfl) | rfl | (simp only [List.length_drop, List.length_take]; rfl)) ?_; (with_reducible refine (fix_F_Mul.calls k ji4 ji6 t230 _ A8.out).mono ?_); rintro e w' ⟨rfl, ⟨nd, rfl⟩⟩; refine ⟨_, rfl, ?_⟩) | ((with_reducible refine gate_callee (f := 9) rfl ?_); refine goesL_ (some 28) rfl rfl Try.func9 (by kernel_rfl) rfl #[.int .i64 ji5, .int .i64 ji6] rfl (by (try simp only [List.map_toArray, List.map_cons, List.map_nil]); first | done | (simp only [hji5, hji6]; rfl) | rfl | (simp only [List.length_drop, List.length_take]; rfl)) ?_; (with_reducible refine (fix_F_Mul.calls k ji5 ji6 t231 _ A9.out).mono ?_); rintro e w' ⟨rfl, ⟨nd, rfl⟩⟩; refine ⟨_, rfl, ?_⟩) | (go_at_call 24; (with_reducible refine (fix_F_Add.calls k ji4 a2 t232 _ A11.out).mono ?_); rintro e w' ⟨rfl, ⟨nd, rfl⟩⟩) | (go_at_call 24; (with_reducible refine (fix_F_Add.calls k ji5 a2 t233 _ A12.out).mono ?_); rintro e w' ⟨rfl, ⟨nd, rfl⟩⟩) | (go_at_call 11; (with_reducible refine (athanorlaw01_awake.calls k  t239 _ A34.out).mono ?_); rintro e w35 ⟨rfl, hb⟩; have n0_ := Aside0.mk (below_step (by repeat (first | (with_reducible first | exact HB.out | apply below_alloc | apply pw_below_drewN | apply below_drew1) | exact HB.out)) hb); clear HB; have HB := n0_; clear n0_; (try clear hb); (try clear hb2); (try clear hk); (try clear hi)))
                  go_ret
                  exact ⟨by first | rfl | (simp [errW_none, errW_some] <;> rfl) | (simp only [← hji4, ← hji5, ← hji6]; first | rfl | (simp [errW_none, errW_some] <;> rfl)) | (simp [*, errW_none, errW_some] <;> rfl), by repeat (first | (with_reducible first | exact HB.out | apply below_alloc | apply pw_below_drewN | apply below_drew1) | exact HB.out)⟩
                · rw [if_neg c33] at H
                  have c33b0 : decide (a2 < (ji4)) = false := decide_eq_false c33
                  clear c33
                  by_cases c36 : a2 > (ji5)
                  · rw [if_pos c36] at H
                    have c36b0 : decide ((ji5) < a2) = true := decide_eq_true c36
                    clear c36
                    replace H := Option.bind_eq_some_iff.mp H
                    obtain ⟨t240, A370, H⟩ := H
                    replace H : (some t240) = some r := H
                    have A37 := Aside0.mk A370
                    clear A370
                    obtain rfl := Option.some.inj H
                    go_enter Try.func8, Try.ntmps8
                    go_wp2_with (first | ((with_reducible refine gate_callee (f := 26) rfl ?_); refine goesL_ (some 22) rfl rfl Try.func26 (by kernel_rfl) rfl #[.int .i64 a2, .int .i64 ji4, .int .i64 ji5] rfl (by (try simp only [List.map_toArray, List.map_cons, List.map_nil]); first | done | (simp only [hji4, hji5]; rfl) | rfl | (simp only [List.length_drop, List.length_take]; rfl)) ?_; (with_reducible refine (fix_Clamp.calls a2 ji4 ji5 t229 _ A7.out).mono ?_); rintro e w' ⟨rfl, ⟨nd, rfl⟩⟩; refine ⟨_, rfl, ?_⟩) | ((with_reducible refine gate_callee (f := 9) rfl ?_); refine goesL_ (some 25) rfl rfl Try.func9 (by kernel_rfl) rfl #[.int .i64 ji4, .int .i64 ji6] rfl (by (try simp only [List.map_toArray, List.map_cons, List.map_nil]); first | done | (simp only [hji4, hji6]; rfl) | rfl | (simp only [List.length_drop, List.length_take]; rfl)) ?_; (with_reducible refine (fix_F_Mul.calls k ji4 ji6 t230 _ A8.out).mono ?_); rintro e w' ⟨rfl, ⟨nd, rfl⟩⟩; refine ⟨_, rfl, ?_⟩) | ((with_reducible refine gate_callee (f := 9) rfl ?_); refine goesL_ (some 28) rfl rfl Try.func9 (by kernel_rfl) rfl #[.int .i64 ji5, .int .i64 ji6] rfl (by (try simp only [List.map_toArray, List.map_cons, List.map_nil]); first | done | (simp only [hji5, hji6]; rfl) | rfl | (simp only [List.length_drop, List.length_take]; rfl)) ?_; (with_reducible refine (fix_F_Mul.calls k ji5 ji6 t231 _ A9.out).mono ?_); rintro e w' ⟨rfl, ⟨nd, rfl⟩⟩; refine ⟨_, rfl, ?_⟩) | (go_at_call 24; (with_reducible refine (fix_F_Add.calls k ji4 a2 t232 _ A11.out).mono ?_); rintro e w' ⟨rfl, ⟨nd, rfl⟩⟩) | (go_at_call 24; (with_reducible refine (fix_F_Add.calls k ji5 a2 t233 _ A12.out).mono ?_); rintro e w' ⟨rfl, ⟨nd, rfl⟩⟩) | (go_at_call 11; (with_reducible refine (athanorlaw01_awake.calls k  t240 _ A37.out).mono ?_); rintro e w38 ⟨rfl, hb⟩; have n0_ := Aside0.mk (below_step (by repeat (first | (with_reducible first | exact HB.out | apply below_alloc | apply pw_below_drewN | apply below_drew1) | exact HB.out)) hb); clear HB; have HB := n0_; clear n0_; (try clear hb); (try clear hb2); (try clear hk); (try clear hi)))
                    go_ret
                    exact ⟨by first | rfl | (simp [errW_none, errW_some] <;> rfl) | (simp only [← hji4, ← hji5, ← hji6]; first | rfl | (simp [errW_none, errW_some] <;> rfl)) | (simp [*, errW_none, errW_some] <;> rfl), by repeat (first | (with_reducible first | exact HB.out | apply below_alloc | apply pw_below_drewN | apply below_drew1) | exact HB.out)⟩
                  · rw [if_neg c36] at H
                    have c36b0 : decide ((ji5) < a2) = false := decide_eq_false c36
                    clear c36
                    obtain rfl := Option.some.inj H
                    go_enter Try.func8, Try.ntmps8
                    go_wp2_with (first | ((with_reducible refine gate_callee (f := 26) rfl ?_); refine goesL_ (some 22) rfl rfl Try.func26 (by kernel_rfl) rfl #[.int .i64 a2, .int .i64 ji4, .int .i64 ji5] rfl (by (try simp only [List.map_toArray, List.map_cons, List.map_nil]); first | done | (simp only [hji4, hji5]; rfl) | rfl | (simp only [List.length_drop, List.length_take]; rfl)) ?_; (with_reducible refine (fix_Clamp.calls a2 ji4 ji5 t229 _ A7.out).mono ?_); rintro e w' ⟨rfl, ⟨nd, rfl⟩⟩; refine ⟨_, rfl, ?_⟩) | ((with_reducible refine gate_callee (f := 9) rfl ?_); refine goesL_ (some 25) rfl rfl Try.func9 (by kernel_rfl) rfl #[.int .i64 ji4, .int .i64 ji6] rfl (by (try simp only [List.map_toArray, List.map_cons, List.map_nil]); first | done | (simp only [hji4, hji6]; rfl) | rfl | (simp only [List.length_drop, List.length_take]; rfl)) ?_; (with_reducible refine (fix_F_Mul.calls k ji4 ji6 t230 _ A8.out).mono ?_); rintro e w' ⟨rfl, ⟨nd, rfl⟩⟩; refine ⟨_, rfl, ?_⟩) | ((with_reducible refine gate_callee (f := 9) rfl ?_); refine goesL_ (some 28) rfl rfl Try.func9 (by kernel_rfl) rfl #[.int .i64 ji5, .int .i64 ji6] rfl (by (try simp only [List.map_toArray, List.map_cons, List.map_nil]); first | done | (simp only [hji5, hji6]; rfl) | rfl | (simp only [List.length_drop, List.length_take]; rfl)) ?_; (with_reducible refine (fix_F_Mul.calls k ji5 ji6 t231 _ A9.out).mono ?_); rintro e w' ⟨rfl, ⟨nd, rfl⟩⟩; refine ⟨_, rfl, ?_⟩) | (go_at_call 24; (with_reducible refine (fix_F_Add.calls k ji4 a2 t232 _ A11.out).mono ?_); rintro e w' ⟨rfl, ⟨nd, rfl⟩⟩) | (go_at_call 24; (with_reducible refine (fix_F_Add.calls k ji5 a2 t233 _ A12.out).mono ?_); rintro e w' ⟨rfl, ⟨nd, rfl⟩⟩))
                    go_ret
                    exact ⟨by first | rfl | (simp [errW_none, errW_some] <;> rfl) | (simp only [← hji4, ← hji5, ← hji6]; first | rfl | (simp [errW_none, errW_some] <;> rfl)) | (simp [*, errW_none, errW_some] <;> rfl), by repeat (first | (with_reducible first | exact HB.out | apply below_alloc | apply pw_below_drewN | apply below_drew1) | exact HB.out)⟩
              · rw [if_neg c32] at H
                have c32b0 : (t229 == (ji5)) = false := beq_eq_false_iff_ne.mpr c32
                have c32b1 : (t229 != (ji5)) = true := bne_iff_ne.mpr c32
                obtain rfl := Option.some.inj H
                go_enter Try.func8, Try.ntmps8
                go_wp2_with (first | ((with_reducible refine gate_callee (f := 26) rfl ?_); refine goesL_ (some 22) rfl rfl Try.func26 (by kernel_rfl) rfl #[.int .i64 a2, .int .i64 ji4, .int .i64 ji5] rfl (by (try simp only [List.map_toArray, List.map_cons, List.map_nil]); first | done | (simp only [hji4, hji5]; rfl) | rfl | (simp only [List.length_drop, List.length_take]; rfl)) ?_; (with_reducible refine (fix_Clamp.calls a2 ji4 ji5 t229 _ A7.out).mono ?_); rintro e w' ⟨rfl, ⟨nd, rfl⟩⟩; refine ⟨_, rfl, ?_⟩) | ((with_reducible refine gate_callee (f := 9) rfl ?_); refine goesL_ (some 25) rfl rfl Try.func9 (by kernel_rfl) rfl #[.int .i64 ji4, .int .i64 ji6] rfl (by (try simp only [List.map_toArray, List.map_cons, List.map_nil]); first | done | (simp only [hji4, hji6]; rfl) | rfl | (simp only [List.length_drop, List.length_take]; rfl)) ?_; (with_reducible refine (fix_F_Mul.calls k ji4 ji6 t230 _ A8.out).mono ?_); rintro e w' ⟨rfl, ⟨nd, rfl⟩⟩; refine ⟨_, rfl, ?_⟩) | ((with_reducible refine gate_callee (f := 9) rfl ?_); refine goesL_ (some 28) rfl rfl Try.func9 (by kernel_rfl) rfl #[.int .i64 ji5, .int .i64 ji6] rfl (by (try simp only [List.map_toArray, List.map_cons, List.map_nil]); first | done | (simp only [hji5, hji6]; rfl) | rfl | (simp only [List.length_drop, List.length_take]; rfl)) ?_; (with_reducible refine (fix_F_Mul.calls k ji5 ji6 t231 _ A9.out).mono ?_); rintro e w' ⟨rfl, ⟨nd, rfl⟩⟩; refine ⟨_, rfl, ?_⟩) | (go_at_call 24; (with_reducible refine (fix_F_Add.calls k ji4 a2 t232 _ A11.out).mono ?_); rintro e w' ⟨rfl, ⟨nd, rfl⟩⟩) | (go_at_call 24; (with_reducible refine (fix_F_Add.calls k ji5 a2 t233 _ A12.out).mono ?_); rintro e w' ⟨rfl, ⟨nd, rfl⟩⟩))
                go_ret
                exact ⟨by first | rfl | (simp [errW_none, errW_some] <;> rfl) | (simp only [← hji4, ← hji5, ← hji6]; first | rfl | (simp [errW_none, errW_some] <;> rfl)) | (simp [*, errW_none, errW_some] <;> rfl), by repeat (first | (with_reducible first | exact HB.out | apply below_alloc | apply pw_below_drewN | apply below_drew1) | exact HB.out)⟩
        · rw [if_neg c15] at H
          have c15b0 : decide (t229 ≤ (ji5)) = false := decide_eq_false c15
          clear c15
          obtain rfl := Option.some.inj H
          go_enter Try.func8, Try.ntmps8
          go_wp2_with (first | ((with_reducible refine gate_callee (f := 26) rfl ?_); refine goesL_ (some 22) rfl rfl Try.func26 (by kernel_rfl) rfl #[.int .i64 a2, .int .i64 ji4, .int .i64 ji5] rfl (by (try simp only [List.map_toArray, List.map_cons, List.map_nil]); first | done | (simp only [hji4, hji5]; rfl) | rfl | (simp only [List.length_drop, List.length_take]; rfl)) ?_; (with_reducible refine (fix_Clamp.calls a2 ji4 ji5 t229 _ A7.out).mono ?_); rintro e w' ⟨rfl, ⟨nd, rfl⟩⟩; refine ⟨_, rfl, ?_⟩) | ((with_reducible refine gate_callee (f := 9) rfl ?_); refine goesL_ (some 25) rfl rfl Try.func9 (by kernel_rfl) rfl #[.int .i64 ji4, .int .i64 ji6] rfl (by (try simp only [List.map_toArray, List.map_cons, List.map_nil]); first | done | (simp only [hji4, hji6]; rfl) | rfl | (simp only [List.length_drop, List.length_take]; rfl)) ?_; (with_reducible refine (fix_F_Mul.calls k ji4 ji6 t230 _ A8.out).mono ?_); rintro e w' ⟨rfl, ⟨nd, rfl⟩⟩; refine ⟨_, rfl, ?_⟩) | ((with_reducible refine gate_callee (f := 9) rfl ?_); refine goesL_ (some 28) rfl rfl Try.func9 (by kernel_rfl) rfl #[.int .i64 ji5, .int .i64 ji6] rfl (by (try simp only [List.map_toArray, List.map_cons, List.map_nil]); first | done | (simp only [hji5, hji6]; rfl) | rfl | (simp only [List.length_drop, List.length_take]; rfl)) ?_; (with_reducible refine (fix_F_Mul.calls k ji5 ji6 t231 _ A9.out).mono ?_); rintro e w' ⟨rfl, ⟨nd, rfl⟩⟩; refine ⟨_, rfl, ?_⟩) | (go_at_call 24; (with_reducible refine (fix_F_Add.calls k ji4 a2 t232 _ A11.out).mono ?_); rintro e w' ⟨rfl, ⟨nd, rfl⟩⟩) | (go_at_call 24; (with_reducible refine (fix_F_Add.calls k ji5 a2 t233 _ A12.out).mono ?_); rintro e w' ⟨rfl, ⟨nd, rfl⟩⟩))
          go_ret
          exact ⟨by first | rfl | (simp [errW_none, errW_some] <;> rfl) | (simp only [← hji4, ← hji5, ← hji6]; first | rfl | (simp [errW_none, errW_some] <;> rfl)) | (simp [*, errW_none, errW_some] <;> rfl), by repeat (first | (with_reducible first | exact HB.out | apply below_alloc | apply pw_below_drewN | apply below_drew1) | exact HB.out)⟩
      · rw [if_neg c14] at H
        have c14b0 : decide ((ji4) ≤ t229) = false := decide_eq_false c14
        clear c14
        obtain rfl := Option.some.inj H
        go_enter Try.func8, Try.ntmps8
        go_wp2_with (first | ((with_reducible refine gate_callee (f := 26) rfl ?_); refine goesL_ (some 22) rfl rfl Try.func26 (by kernel_rfl) rfl #[.int .i64 a2, .int .i64 ji4, .int .i64 ji5] rfl (by (try simp only [List.map_toArray, List.map_cons, List.map_nil]); first | done | (simp only [hji4, hji5]; rfl) | rfl | (simp only [List.length_drop, List.length_take]; rfl)) ?_; (with_reducible refine (fix_Clamp.calls a2 ji4 ji5 t229 _ A7.out).mono ?_); rintro e w' ⟨rfl, ⟨nd, rfl⟩⟩; refine ⟨_, rfl, ?_⟩) | ((with_reducible refine gate_callee (f := 9) rfl ?_); refine goesL_ (some 25) rfl rfl Try.func9 (by kernel_rfl) rfl #[.int .i64 ji4, .int .i64 ji6] rfl (by (try simp only [List.map_toArray, List.map_cons, List.map_nil]); first | done | (simp only [hji4, hji6]; rfl) | rfl | (simp only [List.length_drop, List.length_take]; rfl)) ?_; (with_reducible refine (fix_F_Mul.calls k ji4 ji6 t230 _ A8.out).mono ?_); rintro e w' ⟨rfl, ⟨nd, rfl⟩⟩; refine ⟨_, rfl, ?_⟩) | ((with_reducible refine gate_callee (f := 9) rfl ?_); refine goesL_ (some 28) rfl rfl Try.func9 (by kernel_rfl) rfl #[.int .i64 ji5, .int .i64 ji6] rfl (by (try simp only [List.map_toArray, List.map_cons, List.map_nil]); first | done | (simp only [hji5, hji6]; rfl) | rfl | (simp only [List.length_drop, List.length_take]; rfl)) ?_; (with_reducible refine (fix_F_Mul.calls k ji5 ji6 t231 _ A9.out).mono ?_); rintro e w' ⟨rfl, ⟨nd, rfl⟩⟩; refine ⟨_, rfl, ?_⟩) | (go_at_call 24; (with_reducible refine (fix_F_Add.calls k ji4 a2 t232 _ A11.out).mono ?_); rintro e w' ⟨rfl, ⟨nd, rfl⟩⟩) | (go_at_call 24; (with_reducible refine (fix_F_Add.calls k ji5 a2 t233 _ A12.out).mono ?_); rintro e w' ⟨rfl, ⟨nd, rfl⟩⟩))
        go_ret
        exact ⟨by first | rfl | (simp [errW_none, errW_some] <;> rfl) | (simp only [← hji4, ← hji5, ← hji6]; first | rfl | (simp [errW_none, errW_some] <;> rfl)) | (simp [*, errW_none, errW_some] <;> rfl), by repeat (first | (with_reducible first | exact HB.out | apply below_alloc | apply pw_below_drewN | apply below_drew1) | exact HB.out)⟩
    · rw [if_neg c13] at H
      have c13b0 : decide (t232 ≤ t233) = false := decide_eq_false c13
      clear c13
      obtain rfl := Option.some.inj H
      go_enter Try.func8, Try.ntmps8
      go_wp2_with (first | ((with_reducible refine gate_callee (f := 26) rfl ?_); refine goesL_ (some 22) rfl rfl Try.func26 (by kernel_rfl) rfl #[.int .i64 a2, .int .i64 ji4, .int .i64 ji5] rfl (by (try simp only [List.map_toArray, List.map_cons, List.map_nil]); first | done | (simp only [hji4, hji5]; rfl) | rfl | (simp only [List.length_drop, List.length_take]; rfl)) ?_; (with_reducible refine (fix_Clamp.calls a2 ji4 ji5 t229 _ A7.out).mono ?_); rintro e w' ⟨rfl, ⟨nd, rfl⟩⟩; refine ⟨_, rfl, ?_⟩) | ((with_reducible refine gate_callee (f := 9) rfl ?_); refine goesL_ (some 25) rfl rfl Try.func9 (by kernel_rfl) rfl #[.int .i64 ji4, .int .i64 ji6] rfl (by (try simp only [List.map_toArray, List.map_cons, List.map_nil]); first | done | (simp only [hji4, hji6]; rfl) | rfl | (simp only [List.length_drop, List.length_take]; rfl)) ?_; (with_reducible refine (fix_F_Mul.calls k ji4 ji6 t230 _ A8.out).mono ?_); rintro e w' ⟨rfl, ⟨nd, rfl⟩⟩; refine ⟨_, rfl, ?_⟩) | ((with_reducible refine gate_callee (f := 9) rfl ?_); refine goesL_ (some 28) rfl rfl Try.func9 (by kernel_rfl) rfl #[.int .i64 ji5, .int .i64 ji6] rfl (by (try simp only [List.map_toArray, List.map_cons, List.map_nil]); first | done | (simp only [hji5, hji6]; rfl) | rfl | (simp only [List.length_drop, List.length_take]; rfl)) ?_; (with_reducible refine (fix_F_Mul.calls k ji5 ji6 t231 _ A9.out).mono ?_); rintro e w' ⟨rfl, ⟨nd, rfl⟩⟩; refine ⟨_, rfl, ?_⟩) | (go_at_call 24; (with_reducible refine (fix_F_Add.calls k ji4 a2 t232 _ A11.out).mono ?_); rintro e w' ⟨rfl, ⟨nd, rfl⟩⟩) | (go_at_call 24; (with_reducible refine (fix_F_Add.calls k ji5 a2 t233 _ A12.out).mono ?_); rintro e w' ⟨rfl, ⟨nd, rfl⟩⟩))
      go_ret
      exact ⟨by first | rfl | (simp [errW_none, errW_some] <;> rfl) | (simp only [← hji4, ← hji5, ← hji6]; first | rfl | (simp [errW_none, errW_some] <;> rfl)) | (simp [*, errW_none, errW_some] <;> rfl), by repeat (first | (with_reducible first | exact HB.out | apply below_alloc | apply pw_below_drewN | apply below_drew1) | exact HB.out)⟩
  · rw [if_neg c10] at H
    have c10b0 : decide (t230 ≤ t231) = false := decide_eq_false c10
    clear c10
    obtain rfl := Option.some.inj H
    go_enter Try.func8, Try.ntmps8
    go_wp2_with (first | ((with_reducible refine gate_callee (f := 26) rfl ?_); refine goesL_ (some 22) rfl rfl Try.func26 (by kernel_rfl) rfl #[.int .i64 a2, .int .i64 ji4, .int .i64 ji5] rfl (by (try simp only [List.map_toArray, List.map_cons, List.map_nil]); first | done | (simp only [hji4, hji5]; rfl) | rfl | (simp only [List.length_drop, List.length_take]; rfl)) ?_; (with_reducible refine (fix_Clamp.calls a2 ji4 ji5 t229 _ A7.out).mono ?_); rintro e w' ⟨rfl, ⟨nd, rfl⟩⟩; refine ⟨_, rfl, ?_⟩) | ((with_reducible refine gate_callee (f := 9) rfl ?_); refine goesL_ (some 25) rfl rfl Try.func9 (by kernel_rfl) rfl #[.int .i64 ji4, .int .i64 ji6] rfl (by (try simp only [List.map_toArray, List.map_cons, List.map_nil]); first | done | (simp only [hji4, hji6]; rfl) | rfl | (simp only [List.length_drop, List.length_take]; rfl)) ?_; (with_reducible refine (fix_F_Mul.calls k ji4 ji6 t230 _ A8.out).mono ?_); rintro e w' ⟨rfl, ⟨nd, rfl⟩⟩; refine ⟨_, rfl, ?_⟩) | ((with_reducible refine gate_callee (f := 9) rfl ?_); refine goesL_ (some 28) rfl rfl Try.func9 (by kernel_rfl) rfl #[.int .i64 ji5, .int .i64 ji6] rfl (by (try simp only [List.map_toArray, List.map_cons, List.map_nil]); first | done | (simp only [hji5, hji6]; rfl) | rfl | (simp only [List.length_drop, List.length_take]; rfl)) ?_; (with_reducible refine (fix_F_Mul.calls k ji5 ji6 t231 _ A9.out).mono ?_); rintro e w' ⟨rfl, ⟨nd, rfl⟩⟩; refine ⟨_, rfl, ?_⟩))
    go_ret
    exact ⟨by first | rfl | (simp [errW_none, errW_some] <;> rfl) | (simp only [← hji4, ← hji5, ← hji6]; first | rfl | (simp [errW_none, errW_some] <;> rfl)) | (simp [*, errW_none, errW_some] <;> rfl), by repeat (first | (with_reducible first | exact HB.out | apply below_alloc | apply pw_below_drewN | apply below_drew1) | exact HB.out)⟩

/-- THE ONE PURE STATEMENT of athanorlaw01_FixOrder: yours. -/
def athanorlaw01_FixOrder.Pure : Prop := ∀ (a0 : Int) (a1 : Int) (a2 : Int), (Lit.int .i64 a0).wf = true → (Lit.int .i64 a1).wf = true → (Lit.int .i64 a2).wf = true → ∃ k, athanorlaw01_FixOrder.f k a0 a1 a2 = some true
theorem athanorlaw01_FixOrder.walk (P : athanorlaw01_FixOrder.Pure) (a0 : Int) (a1 : Int) (a2 : Int) (w : World) (w0 : (Lit.int .i64 a0).wf = true) (w1 : (Lit.int .i64 a1).wf = true) (w2 : (Lit.int .i64 a2).wf = true) :
    Calls Try.prog 8 #[.int .i64 a0, .int .i64 a1, .int .i64 a2] w fun e w' => e = .returned (.bool true) ∧ Below w.heap.size w w' := by
  obtain ⟨k, h⟩ := P a0 a1 a2 w0 w1 w2
  refine (athanorlaw01_FixOrder.calls k a0 a1 a2 true w h).mono ?_
  rintro e w' ⟨rfl, hd⟩
  exact ⟨rfl, hd⟩

end Go.Proofs.Ytgaiaidigdennaa.PFix
